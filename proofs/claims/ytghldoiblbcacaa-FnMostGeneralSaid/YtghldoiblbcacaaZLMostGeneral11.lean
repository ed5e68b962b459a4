/- Texts of the claim LMostGeneral in one: UnifyI WMostGeneral Joined. Conditions: none but bounds on sizes. -/
import Derived.Test.YtghldoiblbcacaaZLMostGeneral10
import Derived.Test.YtghldoiblbcacaaZLMostGeneral7
import Derived.Test.YtghldoiblbcacaaZLMostGeneral8
import Derived.Test.YtghldoiblbcacaaZLMostGeneral3
import Derived.Deep.CutRange
import Derived.WalkKit
import Derived.ProofKit
import Derived.OpenShut
/- Unify of the program: of a right substitution it makes what a run of UniR makes. Conditions: vars are 0 to 4, texts are short. -/
namespace Go.Proofs.Ytghldoiblbcacaa
open Go.RowKit
set_option linter.unusedVariables false
set_option linter.unusedSimpArgs false
set_option maxHeartbeats 800000

set_option maxRecDepth 20000 in
theorem implCopySub (l : List GBind) (A : Option Addr) (c : Nat) (w : World) (hb : bulkL GBind.bulk l ≤ 1048576) (hs : Sl w (Lt w.heap.size) 5 A c (l.map GBind.toD)) :
    Calls Try.prog 40 #[.slice A l.length c] w fun e w' => ∃ A' c', e = .returned (.slice A' l.length c') ∧ Sl w' (Lt w'.heap.size) 5 A' c' (l.map GBind.toD) ∧ Below w.heap.size w w' := by
  have hlen : l.length ≤ 1048576 := Nat.le_trans (bulkL_len GBind.bulk l) hb
  have S0 := Lib.hid hs
  have HBJ := Lib.hid (fun (j : Nat) (h : j < l.length) => show (l[j]).ty.bulk ≤ 1048576 from by have h1 := bulkL_mem GBind.bulk l _ (List.getElem_mem h); have h2 : (l[j]).bulk = (l[j]).ty.bulk := rfl; omega)
  obtain ⟨w0, e0⟩ : ∃ w0, w0 = w.alloc (.cells #[] 46) := ⟨_, rfl⟩
  have B0 := Lib.hid (show Below w.heap.size w w0 by rw [e0]; exact (Below.refl _ _).alloc (Nat.le_refl _) _)
  have hs0 : w0.heap.size = w.heap.size + 1 := by rw [e0]; simp
  have G0 := Lib.hid (show Gow w0 w.heap.size w0.heap.size 46 5 (.slice (some ⟨w.heap.size, 0, none⟩) 0 0) 0 [] from Gow.made (by rw [e0]; exact Row.new' _ _ _ rfl) (Nat.le_refl _) (by omega))
  have EQ := Lib.hid e0
  clear hs hb e0 hs0
  go_enter Try.func40, Try.ntmps40
  go_wp2_with fail
  rw [← EQ.out]
  go_loopw [3, 9] (fun v i wr => ∃ (j : Nat) (Av : Option Addr) (cv : Nat), j ≤ l.length ∧ i = .int .i64 j ∧ v = .slice Av j cv ∧ Hid (Gow wr w.heap.size wr.heap.size 46 5 (.slice Av j cv) j ((l.take j).map GBind.toD)) ∧ Hid (Below w.heap.size w wr)) (fun _ i _ => l.length - (intOf i).toNat)
  case atStart => exact ⟨0, _, _, by omega, by go_num, rfl, G0, B0⟩
  case round =>
    clear G0 B0
    obtain ⟨j, Av, cv, hj, rfl, rfl, HG, HB⟩ := hrel
    have hsz := HB.out.size
    by_cases hlt : j < l.length
    · obtain ⟨b, off, A2, c2, eA, hSb, g0, g1, g2, g3, g4, hat⟩ := GBind.elem (S0.out.below HB.out (Nat.le_refl _)) j hlt
      subst eA
      have HWF := Lib.hid hat.1
      obtain ⟨W0, eW⟩ : ∃ W0, W0 = wr.alloc (.cells #[.int .i64 (l[j]).n, .int .i64 (l[j]).ty.op, .int .i64 (l[j]).ty.n, .string (l[j]).ty.s, .slice A2 (l[j]).ty.kids.length c2] 46) := ⟨_, rfl⟩
      have EW := Lib.hid (show Below wr.heap.size wr W0 by rw [eW]; exact (Below.refl _ _).alloc (Nat.le_refl _) _)
      have RB := Lib.hid (show Row W0 wr.heap.size 46 #[.int .i64 (l[j]).n, .int .i64 (l[j]).ty.op, .int .i64 (l[j]).ty.n, .string (l[j]).ty.s, .slice A2 (l[j]).ty.kids.length c2] by rw [eW]; exact Row.new' _ _ _ rfl)
      have EQW := Lib.hid eW
      have HC := Lib.hid (implCopyTy ((l[j]).ty.bulk + 1) (l[j]).ty A2 c2 W0.drew (by omega) (HBJ.out j hlt) (hat.2.keep fun q hq => ⟨Nat.lt_of_lt_of_le hq (Nat.le_trans hsz EW.out.size), EW.out.block q (Nat.lt_of_lt_of_le hq hsz)⟩))
      have hcb := fun i => RB.out.cell i
      have hlb := RB.out.lt
      clear hat eW
      go_wp2_with fail
      rw [← EQW.out]
      go_region_law (first
        | (refine step_append_D w4 rfl (.tmp 13) (.tmp 20) 24 rfl 46 zBindU 5 64 Try.underlying24 (by kernel_rfl) rfl (by omega) w.heap.size wr.heap.size _ j _ HG1.out (l[j]).toD [.int .i64 (l[j]).n, .int .i64 (l[j]).ty.op, .int .i64 (l[j]).ty.n, .string (l[j]).ty.s, .slice A3 (l[j]).ty.kids.length c3] how1.out (by omega) B4.out.size rfl (by simp [Value.oneCell']) (by omega) (by omega) 46 rfl w4.heap.size rfl rfl ?_
           intro g cap w5 G2 Bq2 hs2 hg2 hgl2
           have G5 := Lib.hid G2
           have B5 := Lib.hid Bq2
           clear G2 Bq2)
        | (go_simp
           go_at_call 50
           refine HC.out.mono ?_
           rintro e w4 ⟨A3, c3, rfl, how, hb4⟩
           have B4 := Lib.hid (show Below wr.heap.size wr w4 from EW.out.drew.trans (hb4.mono EW.out.size))
           have RB4 := Lib.hid (RB.out.below (show Below W0.heap.size W0 w4 from (Below.refl _ _).drew.trans hb4) RB.out.lt)
           have hcb4 := fun i => RB4.out.cell i
           have hlb4 := RB4.out.lt
           have HG1 := Lib.hid (HG.out.below B4.out (Nat.le_refl _))
           have how1 := Lib.hid (GBind.own_mk (t := l[j]) (w := w4) (S := Btw wr.heap.size w4.heap.size) (A1 := A3) (c1 := c3) ⟨HWF.out, how.keep fun q hq => ⟨⟨Nat.le_trans EW.out.size hq.1, hq.2⟩, rfl⟩⟩)
           clear hb4 how))
      all_goals
        go_wp2_with fail
        go_roundw
        case rel => exact ⟨j + 1, _, _, by omega, by go_num, rfl, Lib.hid (by rw [take_snoc' l j hlt, List.map_append]; exact G5.out), Lib.hid ((HB.out.trans (B4.out.mono hsz)).trans B5.out)⟩
        case measure => simp [intOf]; omega
    · have hjl : j = l.length := by omega
      subst hjl
      rw [List.take_length] at HG
      obtain ⟨A', c', eV, how⟩ := HG.out.osl
      cases eV
      have HOW := Lib.hid how.slLt
      clear how hlt
      go_wp2_with fail
      go_ret
      exact ⟨_, _, rfl, HOW.out, HB.out⟩

def ToUnifyI (l : List GBind) (a b : GTy) (w : World) (e : Ending) (w' : World) : Prop :=
  ∃ A1 c1 l' ok, e = .returned (.tuple #[.slice A1 (List.length l') c1, .bool ok]) ∧ Below w.heap.size w w' ∧ (ok = true → a.ok = true ∧ b.ok = true ∧ UniR l a b (some l')) ∧ (ok = false → l' = l ∧ (a.ok = true → b.ok = true → UniR l a b none)) ∧ FewL l' ∧ Sl w' (Lt w'.heap.size) 5 A1 c1 (l'.map GBind.toD)

set_option maxRecDepth 20000 in
theorem implUnify (l : List GBind) (A : Option Addr) (c : Nat) (a b : GTy) (Aa : Option Addr) (ca : Nat) (Ab : Option Addr) (cb : Nat) (w : World) 
    (hu : Uni V5 l) (hf : FewL l) (hva : a.okS = true → ∀ m, a.has m = true → V5 m) (hvb : b.okS = true → ∀ m, b.has m = true → V5 m) (txa : a.tx = true) (txb : b.tx = true) (ba : a.bulk ≤ 1000000000000) (bb : b.bulk ≤ 1000000000000) (hs : Sl w (Lt w.heap.size) 5 A c (l.map GBind.toD)) (hata : GTy.At w (Lt w.heap.size) Aa ca a) (hatb : GTy.At w (Lt w.heap.size) Ab cb b) :
    Calls Try.prog 8 #[.slice A l.length c, .agg #[.int .i64 a.op, .int .i64 a.n, .string a.s, .slice Aa a.kids.length ca], .agg #[.int .i64 b.op, .int .i64 b.n, .string b.s, .slice Ab b.kids.length cb]] w (ToUnifyI l a b w) := by
  have hlen : l.length ≤ 5 := hu.few
  have hbl : bulkL GBind.bulk l ≤ 33000 := hf.bulkL hlen
  have HU := Lib.hid hu
  have HF := Lib.hid hf
  have S0 := Lib.hid hs
  have TA := Lib.hid hata
  have TB := Lib.hid hatb
  have HSO := Lib.hid (fun (W : World) (hb : Below w.heap.size w W) => show Calls Try.prog 10 #[.slice A l.length c] W fun e w' => e = .returned (.bool true) ∧ Below W.heap.size W w' by
    have h := implSubOk l A c W (by omega) (S0.out.below hb hb.size)
    rw [HU.out.subOk HF.out] at h
    exact h)
  have HOA := Lib.hid (fun (W : World) (hb : Below w.heap.size w W) => implTyOk a Aa ca W (by have := a.nodes_bulk; omega) (TA.out.below hb hb.size))
  have HOB := Lib.hid (fun (W : World) (hb : Below w.heap.size w W) => implTyOk b Ab cb W (by have := b.nodes_bulk; omega) (TB.out.below hb hb.size))
  have HCP := Lib.hid (fun (W : World) (hb : Below w.heap.size w W) => implCopySub l A c W (by omega) (S0.out.below hb hb.size))
  obtain ⟨w0, e0⟩ : ∃ w0, w0 = (w.alloc (.cells #[.int .i64 a.op, .int .i64 a.n, .string a.s, .slice Aa a.kids.length ca] 27)).alloc (.cells #[.int .i64 b.op, .int .i64 b.n, .string b.s, .slice Ab b.kids.length cb] 27) := ⟨_, rfl⟩
  have B0 := Lib.hid (show Below w.heap.size w w0 by rw [e0]; exact ((Below.refl _ _).alloc (Nat.le_refl _) _).alloc (by simp) _)
  have RA0 := Lib.hid (show Row w0 w.heap.size 27 #[.int .i64 a.op, .int .i64 a.n, .string a.s, .slice Aa a.kids.length ca] by rw [e0]; exact (Row.new' _ _ _ rfl).alloc _)
  have RB0 := Lib.hid (show Row w0 (w.heap.size + 1) 27 #[.int .i64 b.op, .int .i64 b.n, .string b.s, .slice Ab b.kids.length cb] by rw [e0]; exact Row.new' _ _ _ (by simp))
  have EQ := Lib.hid e0
  clear hu hf hs hata hatb hbl e0
  go_enter Try.func8, Try.ntmps8
  go_wp2_with fail
  rw [← EQ.out]
  refine (HSO.out w0 B0.out).mono ?_
  rintro e w1 ⟨rfl, hb1⟩
  have B1 := Lib.hid (B0.out.trans (hb1.mono B0.out.size))
  have RA1 := Lib.hid (RA0.out.below hb1 RA0.out.lt)
  have RB1 := Lib.hid (RB0.out.below hb1 RB0.out.lt)
  have hca := fun i => RA1.out.cell i
  have hcb := fun i => RB1.out.cell i
  have hra := RA1.out.lt
  have hrb := RB1.out.lt
  clear hb1 HSO EQ
  go_wp2_with fail
  refine (HOA.out w1 B1.out).mono ?_
  rintro e w2 ⟨rfl, hb2⟩
  have B2 := Lib.hid (B1.out.trans (hb2.mono B1.out.size))
  have RA2 := Lib.hid (RA1.out.below hb2 RA1.out.lt)
  have RB2 := Lib.hid (RB1.out.below hb2 RB1.out.lt)
  have hca := fun i => RA2.out.cell i
  have hcb := fun i => RB2.out.cell i
  have hra := RA2.out.lt
  have hrb := RB2.out.lt
  clear hb2 HOA RA1 RB1
  cases oa : a.ok
  · have HNO := Lib.hid (show a.ok = true → b.ok = true → UniR l a b none from fun h => by rw [oa] at h; cases h)
    go_wp2_with fail
    refine (HCP.out w2 B2.out).mono ?_
    rintro e w8 ⟨A8, c8, rfl, how, hb8⟩
    have B8 := Lib.hid (B2.out.trans (hb8.mono B2.out.size))
    have HG8 := Lib.hid how
    clear how hb8
    go_wp2_with fail
    go_ret2
    exact ⟨_, _, l, false, rfl, B8.out, (fun h => by cases h), (fun _ => ⟨rfl, HNO.out⟩), HF.out, HG8.out⟩
  go_wp2_with fail
  refine (HOB.out w2 B2.out).mono ?_
  rintro e w3 ⟨rfl, hb3⟩
  have B3 := Lib.hid (B2.out.trans (hb3.mono B2.out.size))
  have RA3 := Lib.hid (RA2.out.below hb3 RA2.out.lt)
  have RB3 := Lib.hid (RB2.out.below hb3 RB2.out.lt)
  have hca := fun i => RA3.out.cell i
  have hcb := fun i => RB3.out.cell i
  have hra := RA3.out.lt
  have hrb := RB3.out.lt
  clear hb3 HOB RA2 RB2
  cases ob : b.ok
  · have HNO := Lib.hid (show a.ok = true → b.ok = true → UniR l a b none from fun _ h => by rw [ob] at h; cases h)
    go_wp2_with fail
    refine (HCP.out w3 B3.out).mono ?_
    rintro e w8 ⟨A8, c8, rfl, how, hb8⟩
    have B8 := Lib.hid (B3.out.trans (hb8.mono B3.out.size))
    have HG8 := Lib.hid how
    clear how hb8
    go_wp2_with fail
    go_ret2
    exact ⟨_, _, l, false, rfl, B8.out, (fun h => by cases h), (fun _ => ⟨rfl, HNO.out⟩), HF.out, HG8.out⟩
  have oka := Lib.hid (show a.nodes ≤ 200 ∧ a.okS = true by unfold GTy.ok at oa; rw [Bool.and_eq_true, decide_eq_true_eq] at oa; exact oa)
  have okb := Lib.hid (show b.nodes ≤ 200 ∧ b.okS = true by unfold GTy.ok at ob; rw [Bool.and_eq_true, decide_eq_true_eq] at ob; exact ob)
  have HOKA := Lib.hid oa
  have HOKB := Lib.hid ob
  have hbk := fun (W : World) (hb : Below w.heap.size w W) => implUni ((5 - l.length) * 50000 + (a.sub (bindOf l)).nodes + 1) l A c a b Aa ca Ab cb W (Nat.lt_succ_self _) HU.out HF.out ⟨oka.out.2, hva oka.out.2⟩ ⟨okb.out.2, hvb okb.out.2⟩ txa txb (BndI.small oka.out.1) (BndI.small okb.out.1) (S0.out.below hb hb.size) (TA.out.below hb hb.size) (TB.out.below hb hb.size)
  have HUN := Lib.hid hbk
  clear oa ob hbk
  go_wp2_with fail
  refine (HUN.out w3 B3.out).mono ?_
  rintro e w5 ⟨A', c', lr, r, rfl, hrun, hb5, hgov⟩
  have B5 := Lib.hid (B3.out.trans (hb5.mono B3.out.size))
  have HRUN := Lib.hid hrun
  have HGV := Lib.hid hgov
  clear hrun hb5 hgov HUN
  rcases r with _ | l'
  · have HNO := Lib.hid (show a.ok = true → b.ok = true → UniR l a b none from fun _ _ => HRUN.out)
    clear HGV HRUN
    go_wp2_with fail
    refine (HCP.out w5 B5.out).mono ?_
    rintro e w8 ⟨A8, c8, rfl, how, hb8⟩
    have B8 := Lib.hid (B5.out.trans (hb8.mono B5.out.size))
    have HG8 := Lib.hid how
    clear how hb8
    go_wp2_with fail
    go_ret2
    exact ⟨_, _, l, false, rfl, B8.out, (fun h => by cases h), (fun _ => ⟨rfl, HNO.out⟩), HF.out, HG8.out⟩
  · obtain ⟨e1, hf2, gv⟩ := HGV.out l' rfl
    subst e1
    have hu2 := (HRUN.out.sound HU.out ⟨oka.out.2, hva oka.out.2⟩ ⟨okb.out.2, hvb okb.out.2⟩ lr rfl).1
    have HF2 := Lib.hid hf2
    have HC2 := Lib.hid (implCopySub lr A' c' w5 (by have := hf2.bulkL hu2.few; omega) gv)
    clear hf2 gv HGV hu2
    go_wp2_with fail
    refine HC2.out.mono ?_
    rintro e w8 ⟨A8, c8, rfl, how, hb8⟩
    have B8 := Lib.hid (B5.out.trans (hb8.mono B5.out.size))
    have HG8 := Lib.hid how
    clear how hb8 HC2
    go_wp2_with fail
    go_ret2
    exact ⟨_, _, lr, true, rfl, B8.out, (fun _ => ⟨HOKA.out, HOKB.out, HRUN.out⟩), (fun h => by cases h), HF2.out, HG8.out⟩
end Go.Proofs.Ytghldoiblbcacaa

/- The walk of the law FnMostGeneral. Conditions: none. -/
namespace Go.Proofs.Ytghldoiblbcacaa
open Go.RowKit Go.BigFrame
set_option linter.unusedVariables false
set_option linter.unusedSimpArgs false
set_option maxHeartbeats 1600000

theorem sm_eq_of : ∀ (N : Nat) (a b : GTy), a.nodes < N → a.sm b = true → a = b := by
  intro N
  induction N with
  | zero => intro a b h; omega
  | succ N ih =>
    intro a b hn h
    rw [GTy.sm_eq] at h
    simp only [Bool.and_eq_true, beq_iff_eq] at h
    obtain ⟨h1, h2, h3, h4⟩ := h
    have hL : ∀ (xs ys : List GTy), (∀ x, x ∈ xs → x.nodes < N) → GTy.smL xs ys = true → xs = ys := by
      intro xs
      induction xs with
      | nil => intro ys _ h; cases ys with
        | nil => rfl
        | cons y r => rw [GTy.smL] at h; cases h
      | cons x r ihx => intro ys hx h; cases ys with
        | nil => rw [GTy.smL] at h; cases h
        | cons y r2 =>
          rw [GTy.smL, Bool.and_eq_true] at h
          rw [ih x y (hx x (by simp)) h.1, ihx r2 (fun z hz => hx z (by simp [hz])) h.2]
    have h5 := hL a.kids b.kids (fun x hx => by have := kid_nodes hx; omega) h4
    rw [ByteArray.toList_eq, ByteArray.toList_eq] at h3
    have h6 : a.s = b.s := ByteArray.ext (Array.toList_inj.1 h3)
    rw [← GTy.mk_self a, ← GTy.mk_self b, h1, h2, h5, h6]
theorem drawn_tx {s : List GBind} {a b : GTy} (hs : drSub s) (ha : drT5 a) (hb : b = a.sub (bindOf s) ∨ drT5 b) : b.tx = true := by
  rcases hb with rfl | hb
  · exact GTy.tx_sub (fun m u hu => by obtain ⟨z, hz, -, rfl⟩ := bindOf_some hu; exact (drSub_few hs z hz).2) _ ha.2.2.1
  · exact hb.2.2.1
theorem drawn_vars {s : List GBind} {a b : GTy} (hs : drSub s) (ha : drT5 a) (hb : b = a.sub (bindOf s) ∨ drT5 b) (ho : b.okS = true) : ∀ m, b.has m = true → V5 m := by
  rcases hb with rfl | hb
  · intro m hm
    refine ⟨okS_n _ ho hm, ?_⟩
    rcases GTy.has_sub a hm with h3 | ⟨k, u, hk, hu⟩
    · exact (ha.2.1 m h3).2
    · obtain ⟨z, hz, -, rfl⟩ := bindOf_some hk
      exact (drSub_vars hs z hz m hu).2
  · exact (good_drT5 hb ho).2
theorem drawn_bulk {s : List GBind} {a b : GTy} (hs : drSub s) (ha : drT5 a) (hb : b = a.sub (bindOf s) ∨ drT5 b) : b.bulk ≤ 1000000000000 := by
  rcases hb with rfl | hb
  · have h1 := GTy.sub_bulk (bindOf s) 40000 (fun m u hu => Nat.le_trans (bindOf_bulk hu) (drSub_bulk hs).1) (a.bulk + 1) a (by omega)
    have h2 : (a.bulk + 1) * (40000 + 1) ≤ 6144 * (40000 + 1) := Nat.mul_le_mul_right _ (by have := ha.1; omega)
    omega
  · have := hb.1; omega

set_option maxRecDepth 20000 in
theorem walkMostGeneral (l : List Int) (A : Option Addr) (c : Nat) (w : World) (hs : Sl w (Lt w.heap.size) 1 A c (l.map (D.num .u8))) :
    Calls Try.prog 3 #[.slice A l.length c] w fun e w' => e = .returned (.bool true) ∧ Below w.heap.size w w' := by
  have S0 := Lib.hid hs
  have hln : l.length ≤ 9223372036854775807 := by simpa using hs.len
  clear hs
  by_cases hbig : 1048576 < l.length
  · have hbi : (1048576 : Int) < (l.length : Int) := by omega
    go_enter Try.func3, Try.ntmps3
    go_wp2_with fail
    refine (bigYesT A c (by omega) w).mono ?_
    rintro e w1 ⟨rfl, rfl⟩
    go_wp2_with fail
    go_ret
    exact ⟨rfl, Below.refl _ _⟩
  have hbi : ¬ (1048576 : Int) < (l.length : Int) := by omega
  have hl : l.length ≤ 1048576 := by omega
  go_enter Try.func3, Try.ntmps3
  go_wp2_with fail
  refine (bigNoT A c (by omega) w).mono ?_
  rintro e w1 ⟨rfl, rfl⟩
  go_wp2_with fail
  refine (drawUnify l A c w S0.out hl).mono ?_
  rintro e w1 ⟨s, a, b, As, cs, A1, c1, A2, c2, rfl, ps, pa, pb, ass, ata, atb, hb1⟩
  have hvb := drawn_vars ps pa pb
  have txb := drawn_tx ps pa pb
  have hbk := drawn_bulk ps pa pb
  have HFS := Lib.hid (drSub_few ps)
  have HSB := Lib.hid (drSub_bulk ps)
  obtain ⟨qa, eqa⟩ : ∃ qa, qa = w1.heap.size := ⟨_, rfl⟩
  obtain ⟨v1, ev1⟩ : ∃ v1, v1 = (w1.alloc (.cells #[.int .i64 a.op, .int .i64 a.n, .string a.s, .slice A1 a.kids.length c1] 27)).alloc (.cells #[.int .i64 b.op, .int .i64 b.n, .string b.s, .slice A2 b.kids.length c2] 27) := ⟨_, rfl⟩
  have E1 := Lib.hid (show Below w1.heap.size w1 v1 by rw [ev1]; exact ((Below.refl _ _).alloc (Nat.le_refl _) _).alloc (by simp) _)
  have B1 := Lib.hid (hb1.trans (E1.out.mono hb1.size))
  have RA1 := Lib.hid (show Row v1 qa 27 #[.int .i64 a.op, .int .i64 a.n, .string a.s, .slice A1 a.kids.length c1] by rw [ev1, eqa]; exact (Row.new' _ _ _ rfl).alloc _)
  have RB1 := Lib.hid (show Row v1 (qa + 1) 27 #[.int .i64 b.op, .int .i64 b.n, .string b.s, .slice A2 b.kids.length c2] by rw [ev1, eqa]; exact Row.new' _ _ _ (by simp))
  have TA1 := Lib.hid (ata.below E1.out E1.out.size)
  have TB1 := Lib.hid (atb.below E1.out E1.out.size)
  have SS1 := Lib.hid (ass.below E1.out E1.out.size)
  have PA := Lib.hid pa
  have PB := Lib.hid pb
  have PS := Lib.hid ps
  have HVB := Lib.hid hvb
  have TXB := Lib.hid txb
  have HBK := Lib.hid hbk
  have hva : a.okS = true → ∀ m, a.has m = true → V5 m := fun ho => (good_drT5 pa ho).2
  have HVA := Lib.hid hva
  have HAB := Lib.hid (show a.bulk ≤ 6142 by have := pa.1; omega)
  have HU1 := Lib.hid (implUnify [] none 0 a b A1 c1 A2 c2 v1 (Uni.nil V5) (fun z hz => by simp at hz) hva hvb pa.2.2.1 txb (by have := pa.1; omega) hbk (Sl.nil (by unfold maxLen; omega)) TA1.out TB1.out)
  have hca := fun i => RA1.out.cell i
  have hcb := fun i => RB1.out.cell i
  have hla := RA1.out.lt
  have hlb := RB1.out.lt
  have EQA := Lib.hid eqa
  have EQ1 := Lib.hid ev1
  clear hb1 ass ata atb ps pa pb ev1 eqa hva hvb txb hbk
  go_wp2_with fail
  rw [← EQA.out, ← EQ1.out]
  refine HU1.out.mono ?_
  rintro e w2 ⟨At, ct, lt, ok, rfl, hb2, hy2, hn2, hf2, hs2⟩
  have B2 := Lib.hid (B1.out.trans (hb2.mono B1.out.size))
  have RA2 := Lib.hid (RA1.out.below hb2 RA1.out.lt)
  have RB2 := Lib.hid (RB1.out.below hb2 RB1.out.lt)
  have TA2 := Lib.hid (TA1.out.below hb2 hb2.size)
  have TB2 := Lib.hid (TB1.out.below hb2 hb2.size)
  have SS2 := Lib.hid (SS1.out.below hb2 hb2.size)
  have HY2 := Lib.hid hy2
  have HN2 := Lib.hid hn2
  have HF2 := Lib.hid hf2
  have ST2 := Lib.hid hs2
  have HU2 := Lib.hid (specUnify (fun _ => True) [] none 0 a b A1 c1 A2 c2 w2 (fun _ _ => trivial) (Uni.nil V5) (fun z hz => by simp at hz) HVA.out HVB.out PA.out.2.2.1 TXB.out (by have := HAB.out; omega) HBK.out (Sl.nil (by unfold maxLen; omega)) TA2.out TB2.out)
  have hca := fun i => RA2.out.cell i
  have hcb := fun i => RB2.out.cell i
  have hla := RA2.out.lt
  have hlb := RB2.out.lt
  clear hb2 hy2 hn2 hf2 hs2 HU1 RA1 RB1 TA1 TB1 SS1 B1 E1
  go_wp2_with fail
  refine HU2.out.mono ?_
  rintro e w3 ⟨Ar, cr, lr, want, rfl, hb3, hy3, hn3, hf3, ho3, hg3⟩
  have B3 := Lib.hid (B2.out.trans (hb3.mono B2.out.size))
  have RA3 := Lib.hid (RA2.out.below hb3 RA2.out.lt)
  have RB3 := Lib.hid (RB2.out.below hb3 RB2.out.lt)
  have TA3 := Lib.hid (TA2.out.below hb3 hb3.size)
  have TB3 := Lib.hid (TB2.out.below hb3 hb3.size)
  have SS3 := Lib.hid (SS2.out.below hb3 hb3.size)
  have ST3 := Lib.hid (ST2.out.below hb3 hb3.size)
  have hwant : want = ok := by
    by_cases hab : a.ok = true ∧ b.ok = true
    · have h : ∀ {r1 r2 : Option (List GBind)}, UniR [] a b r1 → UniR [] a b r2 → r1.isSome = r2.isSome := fun k1 k2 => most_same PS.out PA.out PB.out hab.1 hab.2 ⟨(ok_parts hab.2).2, HVB.out (ok_parts hab.2).2⟩ k1 k2
      cases ok <;> cases want
      · rfl
      · have := h ((HN2.out rfl).2 hab.1 hab.2) (hy3 rfl).2.2; cases this
      · have := h (HY2.out rfl).2.2 ((hn3 rfl).2 hab.1 hab.2); cases this
      · rfl
    · cases ok <;> cases want
      · rfl
      · exact absurd ⟨(hy3 rfl).1, (hy3 rfl).2.1⟩ hab
      · exact absurd ⟨(HY2.out rfl).1, (HY2.out rfl).2.1⟩ hab
      · rfl
  subst hwant
  have hnn : (want != want) = false := by cases want <;> rfl
  have HLT := Lib.hid (show want = false → lt.length = 0 from fun h => by rw [(HN2.out h).1]; rfl)
  have HSO := Lib.hid (implSubOk s As cs w3 (by have := HSB.out.1; omega) SS3.out)
  have hca := fun i => RA3.out.cell i
  have hcb := fun i => RB3.out.cell i
  have hla := RA3.out.lt
  have hlb := RB3.out.lt
  clear hb3 hy3 hn3 hf3 ho3 hg3 HU2 RA2 RB2 TA2 TB2 SS2 ST2 B2
  go_wp2_with fail
  refine HSO.out.mono ?_
  rintro e w4 ⟨rfl, hb4⟩
  have B4 := Lib.hid (B3.out.trans (hb4.mono B3.out.size))
  have RA4 := Lib.hid (RA3.out.below hb4 RA3.out.lt)
  have RB4 := Lib.hid (RB3.out.below hb4 RB3.out.lt)
  have TA4 := Lib.hid (TA3.out.below hb4 hb4.size)
  have TB4 := Lib.hid (TB3.out.below hb4 hb4.size)
  have SS4 := Lib.hid (SS3.out.below hb4 hb4.size)
  have ST4 := Lib.hid (ST3.out.below hb4 hb4.size)
  have hca := fun i => RA4.out.cell i
  have hcb := fun i => RB4.out.cell i
  have hla := RA4.out.lt
  have hlb := RB4.out.lt
  have HOA := Lib.hid (implTyOk a A1 c1 w4 (by have := a.nodes_bulk; have := HAB.out; omega) TA4.out)
  clear hb4 HSO RA3 RB3 TA3 TB3 SS3 ST3 B3
  cases hso : subOkV s
  · cases want
    case' false => have hz : lt.length = 0 := HLT.out rfl
    all_goals
      go_wp2_with fail
      all_goals
        go_ret
        exact ⟨by first | rfl | simp, B4.out⟩
  have HSOK := Lib.hid hso
  clear hso
  go_wp2_with fail
  refine HOA.out.mono ?_
  rintro e w5 ⟨rfl, hb5⟩
  have B5 := Lib.hid (B4.out.trans (hb5.mono B4.out.size))
  have RA5 := Lib.hid (RA4.out.below hb5 RA4.out.lt)
  have RB5 := Lib.hid (RB4.out.below hb5 RB4.out.lt)
  have TA5 := Lib.hid (TA4.out.below hb5 hb5.size)
  have TB5 := Lib.hid (TB4.out.below hb5 hb5.size)
  have SS5 := Lib.hid (SS4.out.below hb5 hb5.size)
  have ST5 := Lib.hid (ST4.out.below hb5 hb5.size)
  have hca := fun i => RA5.out.cell i
  have hcb := fun i => RB5.out.cell i
  have hla := RA5.out.lt
  have hlb := RB5.out.lt
  have HOB := Lib.hid (implTyOk b A2 c2 w5 (by have := b.nodes_bulk; have := HBK.out; omega) TB5.out)
  clear hb5 HOA RA4 RB4 TA4 TB4 SS4 ST4 B4
  cases oka : a.ok
  · cases want
    case' false => have hz : lt.length = 0 := HLT.out rfl
    all_goals
      go_wp2_with fail
      all_goals
        go_ret
        exact ⟨by first | rfl | simp, B5.out⟩
  have HOKA := Lib.hid oka
  clear oka
  go_wp2_with fail
  refine HOB.out.mono ?_
  rintro e w6 ⟨rfl, hb6⟩
  have B6 := Lib.hid (B5.out.trans (hb6.mono B5.out.size))
  have RA6 := Lib.hid (RA5.out.below hb6 RA5.out.lt)
  have RB6 := Lib.hid (RB5.out.below hb6 RB5.out.lt)
  have TA6 := Lib.hid (TA5.out.below hb6 hb6.size)
  have TB6 := Lib.hid (TB5.out.below hb6 hb6.size)
  have SS6 := Lib.hid (SS5.out.below hb6 hb6.size)
  have ST6 := Lib.hid (ST5.out.below hb6 hb6.size)
  have hca := fun i => RA6.out.cell i
  have hcb := fun i => RB6.out.cell i
  have hla := RA6.out.lt
  have hlb := RB6.out.lt
  clear hb6 HOB RA5 RB5 TA5 TB5 SS5 ST5 B5
  cases okb : b.ok
  · cases want
    case' false => have hz : lt.length = 0 := HLT.out rfl
    all_goals
      go_wp2_with fail
      all_goals
        go_ret
        exact ⟨by first | rfl | simp, B6.out⟩
  have HOKB := Lib.hid okb
  clear okb
  obtain ⟨x, ex⟩ : ∃ x, x = a.sub (bindOf s) := ⟨_, rfl⟩
  obtain ⟨y, ey⟩ : ∃ y, y = b.sub (bindOf s) := ⟨_, rfl⟩
  have na := (ok_parts HOKA.out).1
  have nb := (ok_parts HOKB.out).1
  have sha := shT_nodes (sh_drT5 PA.out na)
  have hxn := HFS.out.sub_nodes a
  have txx : (a.sub (bindOf s)).tx = true := GTy.tx_sub (fun m u hu => by obtain ⟨z, hz, -, rfl⟩ := bindOf_some hu; exact (HFS.out z hz).2) _ PA.out.2.2.1
  have gx := sub_good HSOK.out (drSub_vars PS.out) (good_drT5 PA.out (ok_parts HOKA.out).2)
  rw [← ex] at hxn txx gx
  have hxb := GTy.tx_bulk x txx
  have hbb := GTy.tx_bulk b TXB.out
  have HXB := Lib.hid (show x.bulk ≤ 15000 by omega)
  have HGX := Lib.hid gx
  have HTX := Lib.hid txx
  have HBB := Lib.hid (show b.bulk ≤ 1000 by omega)
  have HAP := Lib.hid (show Calls Try.prog 12 #[.slice As s.length cs, .agg #[.int .i64 a.op, .int .i64 a.n, .string a.s, .slice A1 a.kids.length c1]] w6 (ToTy x w6) by rw [ex]; exact implApply (a.bulk + 1) s As cs a A1 c1 w6 (by omega) (by have := HAB.out; omega) (by have := HSB.out.1; omega) SS6.out TA6.out)
  have EX := Lib.hid ex
  have EY := Lib.hid ey
  clear ex ey hxn txx gx hxb hbb na nb sha
  go_wp2_with fail
  refine HAP.out.mono ?_
  rintro e w7 ⟨A3, c3, rfl, how, hb7⟩
  obtain ⟨qx, eqx⟩ : ∃ qx, qx = w7.heap.size := ⟨_, rfl⟩
  obtain ⟨u, eu⟩ : ∃ u, u = w7.alloc (.cells #[.int .i64 x.op, .int .i64 x.n, .string x.s, .slice A3 x.kids.length c3] 27) := ⟨_, rfl⟩
  have E7 := Lib.hid (show Below w7.heap.size w7 u by rw [eu]; exact (Below.refl _ _).alloc (Nat.le_refl _) _)
  have hbu := hb7.trans (E7.out.mono hb7.size)
  have Bu := Lib.hid (B6.out.trans (hbu.mono B6.out.size))
  have RAu := Lib.hid (RA6.out.below hbu RA6.out.lt)
  have RBu := Lib.hid (RB6.out.below hbu RB6.out.lt)
  have TAu := Lib.hid (TA6.out.below hbu hbu.size)
  have TBu := Lib.hid (TB6.out.below hbu hbu.size)
  have SSu := Lib.hid (SS6.out.below hbu hbu.size)
  have STu := Lib.hid (ST6.out.below hbu hbu.size)
  have hca := fun i => RAu.out.cell i
  have hcb := fun i => RBu.out.cell i
  have hla := RAu.out.lt
  have hlb := RBu.out.lt
  have RXu := Lib.hid (show Row u qx 27 #[.int .i64 x.op, .int .i64 x.n, .string x.s, .slice A3 x.kids.length c3] by rw [eu, eqx]; exact Row.new' _ _ _ rfl)
  have TXu := Lib.hid (how.at.keep (S' := Lt u.heap.size) (w' := u) fun q hq => ⟨Nat.lt_of_lt_of_le hq.2 E7.out.size, E7.out.block q hq.2⟩)
  have hcx := fun i => RXu.out.cell i
  have hlx := RXu.out.lt
  have EQX := Lib.hid eqx
  have EQU := Lib.hid eu
  have HAY := Lib.hid (show Calls Try.prog 12 #[.slice As s.length cs, .agg #[.int .i64 b.op, .int .i64 b.n, .string b.s, .slice A2 b.kids.length c2]] u.drew (ToTy y u.drew) by rw [EY.out]; exact implApply (b.bulk + 1) s As cs b A2 c2 u.drew (by omega) (by have := HBB.out; omega) (by have := HSB.out.1; omega) (SSu.out.below (Below.refl _ _).drew (Nat.le_refl _)) (TBu.out.below (Below.refl _ _).drew (Nat.le_refl _)))
  clear hb7 hbu how eqx eu HAP RA6 RB6 TA6 TB6 SS6 ST6 B6 E7
  cases hsm : x.sm y
  case false =>
    go_wp2_with fail
    rw [← EQX.out, ← EQU.out]
    go_region_law (first
      | (go_simp
         go_at_call 12
         refine HAY.out.mono ?_
         rintro e w8 ⟨A8, c8, rfl, how8, hb8⟩
         have B8u := Lib.hid (show Below u.heap.size u w8 from (Below.refl _ _).drew.trans hb8)
         have RX8 := Lib.hid (RXu.out.below B8u.out RXu.out.lt)
         have hcx8 := fun i => RX8.out.cell i
         have hlx8 := RX8.out.lt
         have HSM := Lib.hid (show Calls Try.prog 13 #[.agg #[.int .i64 x.op, .int .i64 x.n, .string x.s, .slice A3 x.kids.length c3], .agg #[.int .i64 y.op, .int .i64 y.n, .string y.s, .slice A8 y.kids.length c8]] w8 fun e w' => e = .returned (.bool false) ∧ Below w8.heap.size w8 w' by
           have h := implSame (x.bulk + 1) x y A3 c3 A8 c8 w8 (by omega) (TXu.out.below B8u.out B8u.out.size) (how8.at.keep fun q hq => ⟨hq.2, rfl⟩)
           rw [hsm] at h
           exact h)
         clear hb8 how8)
      | (go_simp
         go_at_call 13
         refine HSM.out.mono ?_
         rintro e w9 ⟨rfl, hb9⟩
         have B9 := Lib.hid (B8u.out.trans (hb9.mono B8u.out.size))
         clear hb9))
    all_goals
      go_wp2_with fail
      go_ret
      exact ⟨rfl, Bu.out.trans (B9.out.mono Bu.out.size)⟩
  have EXY := Lib.hid (sm_eq_of (x.nodes + 1) x y (by omega) hsm)
  by_cases hbig : 200 < x.nodes
  · have hd : decide ((x.nodes : Int) > 200) = true := decide_eq_true (by omega)
    go_wp2_with fail
    rw [← EQX.out, ← EQU.out]
    go_region_law (first
      | (go_simp
         go_at_call 12
         refine HAY.out.mono ?_
         rintro e w8 ⟨A8, c8, rfl, how8, hb8⟩
         have B8u := Lib.hid (show Below u.heap.size u w8 from (Below.refl _ _).drew.trans hb8)
         have RX8 := Lib.hid (RXu.out.below B8u.out RXu.out.lt)
         have hcx8 := fun i => RX8.out.cell i
         have hlx8 := RX8.out.lt
         have HSM := Lib.hid (show Calls Try.prog 13 #[.agg #[.int .i64 x.op, .int .i64 x.n, .string x.s, .slice A3 x.kids.length c3], .agg #[.int .i64 y.op, .int .i64 y.n, .string y.s, .slice A8 y.kids.length c8]] w8 fun e w' => e = .returned (.bool true) ∧ Below w8.heap.size w8 w' by
           have h := implSame (x.bulk + 1) x y A3 c3 A8 c8 w8 (by omega) (TXu.out.below B8u.out B8u.out.size) (how8.at.keep fun q hq => ⟨hq.2, rfl⟩)
           rw [hsm] at h
           exact h)
         clear hb8 how8)
      | (go_simp
         go_at_call 13
         refine HSM.out.mono ?_
         rintro e w9 ⟨rfl, hb9⟩
         have B9 := Lib.hid (B8u.out.trans (hb9.mono B8u.out.size))
         have RX9 := Lib.hid (RXu.out.below B9.out RXu.out.lt)
         have hcx9 := fun i => RX9.out.cell i
         have hlx9 := RX9.out.lt
         have HTS := Lib.hid (implTySize x.nodes x A3 c3 w9 (Nat.le_refl _) (by have := x.nodes_bulk; have := HXB.out; omega) (TXu.out.below B9.out B9.out.size))
         clear hb9)
      | (go_simp
         go_at_call 14
         refine HTS.out.mono ?_
         rintro e w10 ⟨rfl, hb10⟩
         have B10 := Lib.hid (B9.out.trans (hb10.mono B9.out.size))
         clear hb10))
    all_goals
      go_wp2_with fail
      go_ret
      exact ⟨rfl, Bu.out.trans (B10.out.mono Bu.out.size)⟩
  have hd : decide ((x.nodes : Int) > 200) = false := decide_eq_false (by omega)
  have HSML := Lib.hid (show x.nodes ≤ 200 by omega)
  have hxy : a.sub (bindOf s) = b.sub (bindOf s) := by rw [← EX.out, ← EY.out]; exact EXY.out
  have hgb : Good V5 b := ⟨(ok_parts HOKB.out).2, HVB.out (ok_parts HOKB.out).2⟩
  have hmf := fun (r : Option (List GBind)) (h : UniR [] a b r) => most_fits HSOK.out (drSub_vars PS.out) HOKA.out HOKB.out (good_drT5 PA.out (ok_parts HOKA.out).2) hgb hxy (by rw [← EX.out]; exact HSML.out) h
  have hw : want = true := by
    cases want
    · obtain ⟨l', e, -⟩ := hmf _ ((HN2.out rfl).2 HOKA.out HOKB.out)
      cases e
    · rfl
  subst hw
  have hrun := (HY2.out rfl).2.2
  obtain ⟨l', el, k1, k2, k3, k4, k5⟩ := hmf _ hrun
  cases el
  have hul := (hrun.sound (Uni.nil V5) (good_drT5 PA.out (ok_parts HOKA.out).2) hgb lt rfl).1
  obtain ⟨ta, eta⟩ : ∃ ta, ta = a.sub (bindOf lt) := ⟨_, rfl⟩
  obtain ⟨fx, efx⟩ : ∃ fx, fx = x.frz := ⟨_, rfl⟩
  have txt : (a.sub (bindOf lt)).tx = true := GTy.tx_sub (fun m u hu => by obtain ⟨z, hz, -, rfl⟩ := bindOf_some hu; exact (HF2.out z hz).2) _ PA.out.2.2.1
  have txf := frz_tx x HGX.out.2 HTX.out
  rw [← EX.out] at k3 k4 k5
  rw [← efx] at k3 k4 k5 txf
  rw [← eta] at k1 k2 k5 txt
  have HTA := Lib.hid k1
  have HTG := Lib.hid k2
  have HFA := Lib.hid k3
  have HFG := Lib.hid k4
  have HK5 := Lib.hid k5
  have HTXT := Lib.hid txt
  have HTXF := Lib.hid txf
  have ETA := Lib.hid eta
  have EFX := Lib.hid efx
  have hbl := HF2.out.bulkL hul.few
  have HBL := Lib.hid hbl
  clear hmf hrun k1 k2 k3 k4 k5 txt txf hxy hgb hul eta efx hbl hbig HY2 HN2 HLT
  go_wp2_with fail
  rw [← EQX.out, ← EQU.out]
  go_cut [68] from 58 to 68 (fun v wc => v = .bool false ∧ Below u.heap.size u wc)
  case first =>
    go_region_law (first
      | (go_simp
         go_at_call 12
         refine HAY.out.mono ?_
         rintro e w8 ⟨A8, c8, rfl, how8, hb8⟩
         have B8u := Lib.hid (show Below u.heap.size u w8 from (Below.refl _ _).drew.trans hb8)
         have RX8 := Lib.hid (RXu.out.below B8u.out RXu.out.lt)
         have hcx8 := fun i => RX8.out.cell i
         have hlx8 := RX8.out.lt
         have HSM := Lib.hid (show Calls Try.prog 13 #[.agg #[.int .i64 x.op, .int .i64 x.n, .string x.s, .slice A3 x.kids.length c3], .agg #[.int .i64 y.op, .int .i64 y.n, .string y.s, .slice A8 y.kids.length c8]] w8 fun e w' => e = .returned (.bool true) ∧ Below w8.heap.size w8 w' by
           have h := implSame (x.bulk + 1) x y A3 c3 A8 c8 w8 (by omega) (TXu.out.below B8u.out B8u.out.size) (how8.at.keep fun q hq => ⟨hq.2, rfl⟩)
           rw [hsm] at h
           exact h)
         clear hb8 how8)
      | (go_simp
         go_at_call 13
         refine HSM.out.mono ?_
         rintro e w9 ⟨rfl, hb9⟩
         have B9 := Lib.hid (B8u.out.trans (hb9.mono B8u.out.size))
         have RX9 := Lib.hid (RXu.out.below B9.out RXu.out.lt)
         have hcx9 := fun i => RX9.out.cell i
         have hlx9 := RX9.out.lt
         have HTS := Lib.hid (implTySize x.nodes x A3 c3 w9 (Nat.le_refl _) (by have := HSML.out; omega) (TXu.out.below B9.out B9.out.size))
         clear hb9)
      | (go_simp
         go_at_call 14
         refine HTS.out.mono ?_
         rintro e w10 ⟨rfl, hb10⟩
         have B10 := Lib.hid (B9.out.trans (hb10.mono B9.out.size))
         clear hb10))
    all_goals
      go_wp2_with fail
      go_meet
      exact ⟨rfl, B10.out⟩
  case rest =>
    obtain ⟨rfl, hbc⟩ := hcut
    have BC := Lib.hid hbc
    have RAc := Lib.hid (RAu.out.below hbc RAu.out.lt)
    have RXc := Lib.hid (RXu.out.below hbc RXu.out.lt)
    have hcac := fun i => RAc.out.cell i
    have hcxc := fun i => RXc.out.cell i
    have hlac := RAc.out.lt
    have hlxc := RXc.out.lt
    have HK1 := Lib.hid (show Calls Try.prog 12 #[.slice At lt.length ct, .agg #[.int .i64 a.op, .int .i64 a.n, .string a.s, .slice A1 a.kids.length c1]] wc.drew (ToTy ta wc.drew) by rw [ETA.out]; exact implApply (a.bulk + 1) lt At ct a A1 c1 wc.drew (by omega) (by have := HAB.out; omega) (by have := HBL.out; omega) ((STu.out.below hbc hbc.size).below (Below.refl _ _).drew (Nat.le_refl _)) ((TAu.out.below hbc hbc.size).below (Below.refl _ _).drew (Nat.le_refl _)))
    clear hca hcb hla hlb hcx hlx HAY hbc hsm hd
    go_wp2_with fail
    go_cut [12] from 71 to 79 (fun v wd => v = .bool true ∧ Below wc.heap.size wc wd)
    case first =>
      go_region_law (first
        | (go_simp
           go_at_call 12
           refine HK1.out.mono ?_
           rintro e w8 ⟨A8, c8, rfl, how8, hb8⟩
           have B8 := Lib.hid (show Below wc.heap.size wc w8 from (Below.refl _ _).drew.trans hb8)
           have RX8 := Lib.hid (RXc.out.below B8.out RXc.out.lt)
           have hcx8 := fun i => RX8.out.cell i
           have hlx8 := RX8.out.lt
           have TT8 := Lib.hid (how8.at.keep (w' := w8) (S' := Lt w8.heap.size) fun q hq => ⟨hq.2, rfl⟩)
           have BU8 := Lib.hid (BC.out.trans (B8.out.mono BC.out.size))
           have HKF := Lib.hid (show Calls Try.prog 15 #[.agg #[.int .i64 x.op, .int .i64 x.n, .string x.s, .slice A3 x.kids.length c3]] w8 (ToTy fx w8) by rw [EFX.out]; exact lawFrozen (x.bulk + 1) x A3 c3 w8 (by omega) (by have := HXB.out; omega) HGX.out.2 (TXu.out.below BU8.out BU8.out.size))
           clear hb8 how8)
        | (go_simp
           go_at_call 15
           refine HKF.out.mono ?_
           rintro e w9 ⟨A9, c9, rfl, how9, hb9⟩
           have B9 := Lib.hid (B8.out.trans (hb9.mono B8.out.size))
           have HKU := Lib.hid (implUnify [] none 0 ta fx A8 c8 A9 c9 w9 (Uni.nil V5) (fun z hz => by simp at hz) (fun _ => HTG.out.2) (fun _ => HFG.out.2) HTXT.out HTXF.out (by have := GTy.small_bulk HTXT.out (ok_parts HTA.out).1; omega) (by have := GTy.small_bulk HTXF.out (ok_parts HFA.out).1; omega) (Sl.nil (by unfold maxLen; omega)) (TT8.out.below hb9 hb9.size) (how9.at.keep fun q hq => ⟨hq.2, rfl⟩))
           clear hb9 how9)
        | (go_simp
           go_at_call 8
           refine HKU.out.mono ?_
           rintro e w10 ⟨A10, c10, l10, ok10, rfl, hb10, hy10, hn10, hf10, hs10⟩
           have hok : ok10 = true := by
             cases ok10
             · have := HK5.out _ ((hn10 rfl).2 HTA.out HFA.out); cases this
             · rfl
           subst hok
           have B10 := Lib.hid (B9.out.trans (hb10.mono B9.out.size))
           clear hb10 hy10 hn10 hf10 hs10))
      all_goals
        go_wp2_with fail
        go_meet
        exact ⟨rfl, B10.out⟩
    case rest =>
      obtain ⟨rfl, hbd⟩ := hcut
      have BD := Lib.hid (Bu.out.trans ((BC.out.trans (hbd.mono BC.out.size)).mono Bu.out.size))
      go_wp2_with fail
      go_ret
      exact ⟨rfl, BD.out⟩
end Go.Proofs.Ytghldoiblbcacaa

/- The closed facts of a row, one by one (no program in sight). Conditions: none. -/
namespace Go.Proofs.Ytghldoiblbcacaa
open Go.ChangeShapes Go.WideShapes Go.ChangeAt Go.RowKit
set_option linter.unusedVariables false

/-- the number kinds of the parameters of a row with a domain -/
def kindsOf (P : Program) (fn : Func) (c : OpenClaim) : List (Option IntKind) := if c.domain.isEmpty then [] else fn.params.toList.map fun t => match P.underlying t with | some (.int k) => some k | _ => none
theorem joinedAnd {a b : Bool} (h : a = true) (h2 : b = true) : (a && b) = true := by rw [h, h2]; rfl
set_option maxRecDepth 10000 in
theorem joinedOf {P : Program} {f : FuncId} {fn : Func} {s : ChangeSpec} {c : OpenClaim} (h0 : (c.wf (OpenSpec.ofChange s)) = true) (h1 : (laidOutB P) = true) (h2 : (mapsRowed P) = true) (h3 : (fn.params.all (P.readableRec ·)) = true) (h4 : (namedTie P c.named s.vars) = true) (h5 : (c.stops == []) = true) (h6 : (P.stops == []) = true) (h7 : (c.knobs == []) = true) (h8 : (P.stopKnobs == []) = true) (h9 : (c.inPlace == P.inPlace f) = true) (h10 : (c.unfollowed == P.unfollowed f) = true) (h11 : (c.recurses == P.recurses f) = true) (h12 : (c.named == P.varsNamed f) = true) (h13 : (c.maps == (fn.params.toList ++ s.plain.varTypes P).any (P.mapsRec ·)) = true) (h14 : (c.ifaces == (fn.params.toList ++ s.plain.varTypes P).any (P.ifacesRec ·)) = true) (h15 : (c.mapsOut == P.mapsAmong fn.resultTypes.toList) = true) (h16 : (c.loops == (fn.params.toList ++ s.plain.varTypes P).any (P.loopsFrom ·)) = true) (h17 : (c.wideKeys == (fn.params.toList ++ s.plain.varTypes P ++ fn.resultTypes.toList).any (P.wideKeysFrom ·)) = true) (h18 : (s.vars.all (P.varReadable ·)) = true) (h19 : (fn.resultTypes.all (fun t => P.readableRec t && decide (t < P.types.size))) = true) (h20 : (c.ifacesOut == fn.resultTypes.toList.any (P.ifacesRec ·)) = true) (h21 : (c.loopsOut == fn.resultTypes.toList.any (P.loopsFrom ·)) = true) (h22 : (c.plainKeys == P.plainKeys) = true) (h23 : (c.shortTexts.isNone) = true) (h24 : (P.stopsHeard) = true) (h25 : (P.mayEnter) = true) (h26 : (c.lifted == P.liftsFinal) = true) (h27 : (P.make == some c.make) = true) (h28 : (c.kinds == kindsOf P fn c) = true) (h29 : (c.pinned == c.pinnedBy) = true) (h30 : (c.veiled == (fn.params.toList ++ s.plain.varTypes P ++ fn.resultTypes.toList).any (P.veiledRec ·)) = true) (h31 : (c.veiledFits P fn.params.toList (fn.params.toList ++ s.plain.varTypes P ++ fn.resultTypes.toList)) = true) : joinedFacts P f fn s c = true := by
  unfold joinedFacts
  exact (joinedAnd (joinedAnd (joinedAnd (joinedAnd (joinedAnd (joinedAnd (joinedAnd (joinedAnd (joinedAnd (joinedAnd (joinedAnd (joinedAnd (joinedAnd (joinedAnd (joinedAnd (joinedAnd (joinedAnd (joinedAnd (joinedAnd (joinedAnd (joinedAnd (joinedAnd (joinedAnd (joinedAnd (joinedAnd (joinedAnd (joinedAnd (joinedAnd (joinedAnd (joinedAnd (joinedAnd h0 h1) h2) h3) h4) h5) h6) h7) h8) h9) h10) h11) h12) h13) h14) h15) h16) h17) h18) h19) h20) h21) h22) h23) h24) h25) h26) h27) h28) h29) h30) h31)
end Go.Proofs.Ytghldoiblbcacaa
