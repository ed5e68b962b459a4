/- Texts of the claim LCases in one: PbB PbC DnC DnE GAsk GTrow GTree ConTag FCon ConOf Focus MarkText Int RowI Vars Has CoverP TreesP TrA ANode CoverA CoverC CoverR TrB TrC. Conditions: none but bounds on sizes. -/
import Derived.Test.YtjjikciggbnjmaaGreatZLCases4
import Derived.Test.YtjjikciggbnjmaaGreatZLCases5
import Derived.Test.YtjjikciggbnjmaaGreatZLCases7
import Derived.Test.YtjjikciggbnjmaaGreatZLCases9
import Derived.Deep.CutRange
import Derived.Test.YtjjikciggbnjmaaGreatZLCases3
import Derived.Test.YtjjikciggbnjmaaGreatZLCases0
import Derived.Test.YtjjikciggbnjmaaGreatZLCases2
import Derived.Test.YtjjikciggbnjmaaGreatRows
import Derived.Lib.Hide
import Derived.BigQuiet
import Derived.Lib.AppendZerosOnto
import Derived.StillTailTactics
import Derived.Deep.RegionLaw
import Derived.Deep.DeepMust
import Derived.Deep.RegionHeld3
namespace Go.Proofs.YtjjikciggbnjmaaGreat
set_option maxRecDepth 20000
set_option linter.unusedVariables false
set_option linter.unusedSimpArgs false
open Go.RowKit
set_option maxHeartbeats 2000000
theorem Mv.chg2 {ts : List GToken} {g : Nat} {L : Option Addr} {cl : Nat} {V : Option Addr} {cv : Nat} {vs : List ByteArray} {st : PSt} {q : Nat} {a b c : World} (h : Mv ts g L cl V cv vs st a b) (k : Bx q b c) (hq : a.heap.size ≤ q) (hg : g ≠ q) : Mv ts g L cl V cv vs st a c := by
 have hz := h.size
 exact ⟨⟨k.os.trans h.bx.os, k.tape.trans h.bx.tape, k.output.trans h.bx.output, Nat.le_trans hz k.size, fun x hx hxg => (k.block x (by omega) (by omega)).trans (h.bx.block x hx hxg)⟩, (k.block g h.row.lt hg).trans h.row, h.vs, h.pos⟩
theorem Mv.cur3 {ts : List GToken} {g : Nat} {L : Option Addr} {cl : Nat} {V : Option Addr} {cv : Nat} {vs : List ByteArray} {st : PSt} {w w' : World} (m : Mv ts g L cl V cv vs st w w') (ht : Sl w' (fun b => b < w'.heap.size ∧ b ≠ g) 4 L cl (ts.map GToken.toD)) (hv : Sl w' (fun b => b < w'.heap.size ∧ b ≠ g) 1 V cv (vs.map D.str)) (hf : ts.length ≤ 1048576) : PCur ts g L cl V cv st w' :=
 ⟨by rw [m.vs]; exact m.row, ht, by rw [m.vs]; exact hv, m.pos, hf⟩
theorem Mv.trans2 {ts : List GToken} {g : Nat} {L : Option Addr} {cl : Nat} {V V2 : Option Addr} {cv cv2 : Nat} {vs vs2 : List ByteArray} {st st' : PSt} {a b c : World} (h : Mv ts g L cl V cv vs st a b) (k : Mv ts g L cl V2 cv2 vs2 st' b c) : Mv ts g L cl V2 cv2 vs2 st' a c :=
 ⟨h.bx.trans k.bx, k.row, k.vs, k.pos⟩
theorem tokN_len : ∀ (k : Nat) (l : List UInt8) (i : Nat) (acc ts : List GToken), tokN k l i acc = some ts → acc.length < ts.length ∧ ts.length ≤ acc.length + k
 | 0, l, i, acc, ts, h => by simp [tokN] at h
 | k + 1, [], i, acc, ts, h => by simp [tokN] at h; subst h; simp
 | k + 1, b :: r, i, acc, ts, h => by
  cases hb : (b == 32 || b == 10) with
  | true =>
   rw [tokN_blank _ _ _ _ _ hb] at h
   have := tokN_len k _ _ _ _ h
   omega
  | false =>
   rw [tokN_one _ _ _ _ _ hb] at h
   split at h
   · have := tokN_len k _ _ _ _ h
     simp at this
     omega
   · cases h
def PToProg (p : GProg) (w : World) (e : Ending) (w' : World) : Prop :=
 ∃ A1 c1 A2 c2, e = .returned (.tuple #[.agg #[.slice A1 p.datas.length c1, .int .i64 p.main.op, .int .i64 p.main.n, .string p.main.s, .string p.main.t, .slice A2 p.main.kids.length c2], .int .i64 (-1)]) ∧ GProg.At w' (fun b => w.heap.size ≤ b ∧ b < w'.heap.size) A1 c1 A2 c2 p ∧ Below w.heap.size w w'
theorem stored6 {w : World} {n : Nat} {T : TypeId} {a0 a1 a2 a3 a4 a5 : Value} (h : Row w n T #[a0, a1, a2, a3, a4, a5]) (v0 v1 v2 v3 v4 v5 : Value) : ∃ x, x = ((((((w.setCell ⟨n, 0, none⟩ v0).setCell ⟨n, 1, none⟩ v1).setCell ⟨n, 2, none⟩ v2).setCell ⟨n, 3, none⟩ v3).setCell ⟨n, 4, none⟩ v4).setCell ⟨n, 5, none⟩ v5) ∧ Hid (Row x n T #[v0, v1, v2, v3, v4, v5]) ∧ x.heap.size = w.heap.size ∧ Hid (Bx n w x) :=
 ⟨_, rfl, LH ((((((h.set 0 v0).set 1 v1).set 2 v2).set 3 v3).set 4 v4).set 5 v5), by simp [World.setCell], LH (((((((Bx.refl _ _).set (p := ⟨n, 0, none⟩) (.inl rfl) _).set (p := ⟨n, 1, none⟩) (.inl rfl) _).set (p := ⟨n, 2, none⟩) (.inl rfl) _).set (p := ⟨n, 3, none⟩) (.inl rfl) _).set (p := ⟨n, 4, none⟩) (.inl rfl) _).set (p := ⟨n, 5, none⟩) (.inl rfl) _)⟩
theorem stored5b {w : World} {n : Nat} {T : TypeId} {a0 a1 a2 a3 a4 a5 : Value} (h : Row w n T #[a0, a1, a2, a3, a4, a5]) (v1 v2 v3 v4 v5 : Value) : ∃ x, x = (((((w.setCell ⟨n, 1, none⟩ v1).setCell ⟨n, 2, none⟩ v2).setCell ⟨n, 3, none⟩ v3).setCell ⟨n, 4, none⟩ v4).setCell ⟨n, 5, none⟩ v5) ∧ Hid (Row x n T #[a0, v1, v2, v3, v4, v5]) ∧ x.heap.size = w.heap.size ∧ Hid (Bx n w x) :=
 ⟨_, rfl, LH (((((h.set 1 v1).set 2 v2).set 3 v3).set 4 v4).set 5 v5), by simp [World.setCell], LH ((((((Bx.refl _ _).set (p := ⟨n, 1, none⟩) (.inl rfl) _).set (p := ⟨n, 2, none⟩) (.inl rfl) _).set (p := ⟨n, 3, none⟩) (.inl rfl) _).set (p := ⟨n, 4, none⟩) (.inl rfl) _).set (p := ⟨n, 5, none⟩) (.inl rfl) _)⟩
theorem l3Parse (k : Nat) (hkk : k ≤ 900000) (src : ByteArray) (w : World) (hs : src.size ≤ 3000) (ts : List GToken) (ds : List GData) (s1 : PSt) (m : GNode) (s2 : PSt) (h0 : tokN k src.data.toList 0 [] = some ts) (h1 : pDatas ts k ⟨0, -1, [], false⟩ [] = some (ds, s1)) (h2 : pE ts k s1 = some (m, s2)) (h3 : s2.bad < 0) (h4 : (pNow ts s2).kind = 0) (h5 : s2.nov = false) (h6 : tidyP ⟨ds, m⟩ = true) (h7 : (⟨ds, m⟩ : GProg).bulk ≤ 1048576) :
 Calls Tryz.prog 29 #[.string src] w (PToProg ⟨ds, m⟩ w) := by
 have hlen := tokN_len _ _ _ _ _ h0
 simp only [List.length_nil, Nat.zero_add] at hlen
 have hpos := hlen.1
 have hfew : ts.length ≤ 1048576 := by omega
 have HT := LH (fun x : World => l2Tokens k src x hs ts h0)
 have H1 := LH h1
 have H2 := LH h2
 have H3 := LH h3
 have H4 := LH h4
 have H5 := LH h5
 have H6 := LH h6
 have H7 := LH h7
 clear h0 h1 h2 h3 h4 h5 h6 h7 hlen
 obtain ⟨w1, e1, Rr1, hz1, K1⟩ := boxed w 82 #[.slice none 0 0, .int .i64 0, .int .i64 0, .string ⟨#[]⟩, .string ⟨#[]⟩, .slice none 0 0]
 have E1 := LH (show Below w.heap.size w w1 by rw [e1]; exact (Below.refl _ _).alloc (Nat.le_refl _) _)
 go_enter Tryz.func29, Tryz.ntmps29
 refine wp_hide (fun BP hBP => ?_)
 have HBP := LH hBP
 clear hBP
 go_wp2_with fail
 rw [← e1]
 clear e1
 refine (HT.out w1).mono ?_
 rintro e w2 ⟨L, cl, rfl, hsl, hb2⟩
 have hz2 := hb2.size
 have DT2 := LH hsl
 have Rr2 := LH (Rr1.out.below hb2 Rr1.out.lt)
 have E2 := LH (E1.out.trans (hb2.mono (by omega)))
 clear hsl hb2 Rr1 E1 HT
 go_wp2_with fail
 obtain ⟨w3, e3, Rg3, hz3, K3⟩ := boxed w2 114 #[.slice L ts.length cl, .int .i64 0, .int .i64 (-1), .slice none 0 0, .bool false]
 obtain ⟨w4, e4, Rp4, hz4, K4⟩ := boxed w3 82 #[.slice none 0 0, .int .i64 0, .int .i64 0, .string ⟨#[]⟩, .string ⟨#[]⟩, .slice none 0 0]
 rw [hz3] at Rp4
 have Rr4 := LH (K4.out.row (K3.out.row Rr2.out (by omega)) (by omega))
 have Rg4 := LH (K4.out.row Rg3.out (by omega))
 have E4 := LH (show Below w.heap.size w w4 by rw [e4, e3]; exact (E2.out.alloc (by omega) _).alloc (by simp; omega) _)
 rw [← e3, ← e4]
 clear e3 e4
 obtain ⟨g, hg⟩ : ∃ g, g = w2.heap.size := ⟨_, rfl⟩
 have M4 := LH (show Mv ts g L cl none 0 [] ⟨0, -1, [], false⟩ w w4 from ⟨Bx.of_below E4.out (Nat.le_refl _), by rw [hg]; exact Rg4.out, rfl, hpos⟩)
 have DT4 := LH (DT2.out.keep (w' := w4) (S' := fun b => w.heap.size < b ∧ b < g) fun b hb => ⟨⟨by have := hb.1; omega, by have := hb.2; omega⟩, (K4.out.block b (by have := hb.2; omega) (by have := hb.2; omega)).trans (K3.out.block b (by have := hb.2; omega) (by have := hb.2; omega))⟩)
 obtain ⟨na, hna⟩ : ∃ n, n = w2.heap.size + 1 := ⟨_, rfl⟩
 rw [← hna] at Rp4
 rw [← hg] at Rg4
 rw [← hna, ← hg]
 have hng : g < na := by omega
 have hwg : w.heap.size < g := by omega
 have h4n : na < w4.heap.size := by omega
 clear hg hna hz2 hz3 hz4 K3 K4 DT2 Rr2 Rg3 E2 Rg4
 have hINV : ∃ I : Nat → World → Prop, I = fun j wr => ∃ (acc : List GData) (s : PSt) (A : Option Addr) (c : Nat) (V : Option Addr) (cv : Nat) (vs : List ByteArray), pDatas ts j s acc = some (ds, s1) ∧ j ≤ k ∧ acc.length + j ≤ k + 1 ∧ Row wr na 82 #[.slice A acc.length c, .int .i64 0, .int .i64 0, .string ⟨#[]⟩, .string ⟨#[]⟩, .slice none 0 0] ∧ Row wr w.heap.size 82 #[.slice none 0 0, .int .i64 0, .int .i64 0, .string ⟨#[]⟩, .string ⟨#[]⟩, .slice none 0 0] ∧ Grx (fun b => w.heap.size < b ∧ b ≠ g ∧ b ≠ na) wr (na + 1) 92 3 (.slice A acc.length c) acc.length (acc.map GData.toD) ∧ Mv ts g L cl V cv vs s w wr ∧ Sl wr (fun b => w.heap.size < b ∧ b < g) 4 L cl (ts.map GToken.toD) ∧ Sl wr (fun b => b < wr.heap.size ∧ b ≠ g ∧ b ≠ na ∧ b ≠ w.heap.size) 1 V cv (vs.map D.str) ∧ na < wr.heap.size := ⟨_, rfl⟩
 obtain ⟨I, hI⟩ := hINV
 have HI := LH hI
 have I0 : I k w4 := by
  rw [hI]
  exact ⟨[], ⟨0, -1, [], false⟩, none, 0, none, 0, [], H1.out, Nat.le_refl _, by simp, Rp4.out, Rr4.out, Grx.nil _ _ _ _ _, M4.out, DT4.out, Sl.nil (by unfold maxLen; omega), h4n⟩
 go_loopw [22] (fun v wr => ∃ j, I j wr) (fun _ wr => leastK (fun j => I j wr))
 case atStart => exact ⟨k, I0⟩
 case round =>
  have hex := hrel
  have hleast := leastK_spec (I := fun j => I j wr) hex
  obtain ⟨j, hj⟩ : ∃ j, leastK (fun j => I j wr) = j := ⟨_, rfl⟩
  rw [hj] at hleast
  have HJ := LH hj
  clear hj hex hrel I0
  rw [hI] at hleast
  obtain ⟨acc, s, A, c, V, cv, vs, hx, hjk, hal, ra, rr, gg, hm, ht, hv, hnl⟩ := hleast
  clear Rp4 Rr4 M4 DT4 hI h4n E4 H1
  have RA0 := LH ra
  have RR0 := LH rr
  have GG0 := LH gg
  have MR0 := LH hm
  have DT0 := LH ht
  have DV0 := LH hv
  have hzr := hm.size
  clear ra rr gg hm ht hv
  have hcu0 := fun i => MR0.out.row.cell i
  have hlu0 := MR0.out.row.lt
  have hcr0 := fun i => RR0.out.cell i
  have hlr0 := RR0.out.lt
  have hca0 := fun i => RA0.out.cell i
  have hla0 := RA0.out.lt
  cases j with
  | zero => simp [pDatas] at hx
  | succ j =>
   go_wp2_with fail
   refine (l3Is ts g L cl V cv s wr (MR0.out.cur3 (DT0.out.keep fun b hb => ⟨⟨by have h1 := hb.1; have h2 := hb.2; omega, by have h1 := hb.1; have h2 := hb.2; omega⟩, rfl⟩) (DV0.out.keep fun b hb => ⟨⟨by have h1 := hb.1; have h2 := hb.2; omega, by have h1 := hb.1; have h2 := hb.2; omega⟩, rfl⟩) hfew) ⟨#[100, 97, 116, 97]⟩).mono ?_
   clear hcu0 hlu0 hcr0 hlr0 hca0 hla0
   rintro e w1 ⟨rfl, hb1⟩
   have hz1 := hb1.size
   have K1 := LH (Bx.of_below (g := g) hb1 (Nat.le_refl _))
   have Rr1 := LH (K1.out.row RR0.out (by omega))
   have Ra1 := LH (K1.out.row RA0.out (by omega))
   have DT1 := LH (DT0.out.keep fun b hb => K1.out.kq hb (by have h1 := hb.1; have h2 := hb.2; omega))
   have DV1 := LH (DV0.out.keep fun b hb => K1.out.kq hb (by have h1 := hb.1; have h2 := hb.2; omega))
   have GG1 := LH (GG0.out.keepP (w' := w1) (by omega) fun b hb h => K1.out.block b hb (by
     rcases h with h | h
     · have := GG0.out.own b h; omega
     · obtain ⟨x1, x2, x3⟩ := h; omega))
   have M1 := LH (MR0.out.below hb1)
   clear RR0 RA0 DT0 DV0 GG0 MR0
   clear hb1
   have hcu1 := fun i => M1.out.row.cell i
   have hlu1 := M1.out.row.lt
   have hcr1 := fun i => Rr1.out.cell i
   have hlr1 := Rr1.out.lt
   have hca1 := fun i => Ra1.out.cell i
   have hla1 := Ra1.out.lt
   cases hs0 : pIs ts [100, 97, 116, 97] s
   ·
    simp [pDatas, hs0] at hx
    obtain ⟨hxa, hxs⟩ := hx
    rw [← hxs] at H2
    rw [← hxa] at H6 H7
    have HXA := LH hxa
    clear hxa hxs HJ HI
    go_wp2_with fail
    refine (l3E_ok k (by omega) ts g L cl V cv s w1 (M1.out.cur3 (DT1.out.keep fun b hb => ⟨⟨by have h1 := hb.1; have h2 := hb.2; omega, by have h1 := hb.1; have h2 := hb.2; omega⟩, rfl⟩) (DV1.out.keep fun b hb => ⟨⟨by have h1 := hb.1; have h2 := hb.2; omega, by have h1 := hb.1; have h2 := hb.2; omega⟩, rfl⟩) hfew) m s2 H2.out).mono ?_
    clear hcu1 hlu1 hcr1 hlr1 hca1 hla1
    rintro e w2 ⟨Am, cm, rfl, ha2, hm2⟩
    have hz2 := hm2.size
    have K2 := LH hm2.bx
    have DN2 := LH ha2
    have Rr2 := LH (K2.out.row Rr1.out (by omega))
    have Ra2 := LH (K2.out.row Ra1.out (by omega))
    have DT2 := LH (DT1.out.keep fun b hb => K2.out.kq hb (by have h1 := hb.1; have h2 := hb.2; omega))
    have DV2 := LH (DV1.out.keep fun b hb => K2.out.kq hb (by have h1 := hb.1; have h2 := hb.2; omega))
    have GG2 := LH (GG1.out.keepP (w' := w2) (by omega) fun b hb h => K2.out.block b hb (by
      rcases h with h | h
      · have := GG1.out.own b h; omega
      · obtain ⟨x1, x2, x3⟩ := h; omega))
    have M2 := LH (M1.out.trans hm2)
    clear Rr1 Ra1 DT1 DV1 GG1 M1
    clear hm2 ha2
    have hcu2 := fun i => M2.out.row.cell i
    have hlu2 := M2.out.row.lt
    have hcr2 := fun i => Rr2.out.cell i
    have hlr2 := Rr2.out.lt
    have hca2 := fun i => Ra2.out.cell i
    have hfa2 := fun i => Ra2.out.frozen i
    have hla2 := Ra2.out.lt
    go_wp2_with fail
    clear hcu2 hlu2 hcr2 hlr2 hca2 hfa2 hla2
    obtain ⟨w3, e3, RN3, hz3, K3⟩ := stored5b Ra2.out (.int .i64 m.op) (.int .i64 m.n) (.string m.s) (.string m.t) (.slice Am m.kids.length cm)
    have Rr3 := LH (K3.out.row Rr2.out (by omega))
    have DT3 := LH (DT2.out.keep fun b hb => K3.out.kq hb (by have h1 := hb.1; have h2 := hb.2; omega))
    have DV3 := LH (DV2.out.keep fun b hb => K3.out.kq hb (by have h1 := hb.1; have h2 := hb.2; omega))
    have Dm3 := LH (DN2.out.keep fun b hb => K3.out.kq hb (by have h1 := hb.1; have h2 := hb.2; omega))
    have GG3 := LH (GG2.out.keepP (w' := w3) (by omega) fun b hb h => K3.out.block b hb (by
      rcases h with h | h
      · have := GG2.out.own b h; omega
      · obtain ⟨x1, x2, x3⟩ := h; omega))
    have M3 := LH (M2.out.chg2 K3.out (by omega) (by omega))
    clear Rr2 DT2 DV2 DN2 GG2 M2
    clear Ra2
    rw [← e3]
    clear e3
    have hcu3 := fun i => M3.out.row.cell i
    have hlu3 := M3.out.row.lt
    have hcr3 := fun i => Rr3.out.cell i
    have hlr3 := Rr3.out.lt
    have hca3 := fun i => RN3.out.cell i
    have hla3 := RN3.out.lt
    have h3 := H3.out
    have d3 : decide (s2.bad < 0) = true := decide_eq_true h3
    have d3b : decide (0 ≤ s2.bad) = false := decide_eq_false (by omega)
    obtain ⟨t, ht⟩ : ∃ t, pNow ts s2 = t := ⟨_, rfl⟩
    have hk0 := H4.out
    rw [ht] at hk0
    have hfd : ∀ w : World, (Instr.field 119 (.agg #[.int .i64 0, .string t.text, .int .i64 t.n, .int .i64 t.pos]) 0).run Tryz.prog w = .ok (.int .i64 0) w := fun _ => by kernel_rfl
    have HTT := LH ht
    have HK0 := LH hk0
    clear h3 ht hk0
    go_wp2_with fail
    have HNW := LH (l3Now ts g L cl V cv s2 w3 (M3.out.cur3 (DT3.out.keep fun b hb => ⟨⟨by have h1 := hb.1; have h2 := hb.2; omega, by have h1 := hb.1; have h2 := hb.2; omega⟩, rfl⟩) (DV3.out.keep fun b hb => ⟨⟨by have h1 := hb.1; have h2 := hb.2; omega, by have h1 := hb.1; have h2 := hb.2; omega⟩, rfl⟩) hfew))
    rw [HTT.out, HK0.out] at HNW
    refine (HNW.out).mono ?_
    clear hcu3 hlu3 hcr3 hlr3 hca3 hla3
    rintro e w4 ⟨rfl, hb4⟩
    have hz4 := hb4.size
    have K4 := LH (Bx.of_below (g := g) hb4 (Nat.le_refl _))
    have Rr4 := LH (K4.out.row Rr3.out (by omega))
    have Ra4 := LH (K4.out.row RN3.out (by omega))
    have DT4 := LH (DT3.out.keep fun b hb => K4.out.kq hb (by have h1 := hb.1; have h2 := hb.2; omega))
    have DV4 := LH (DV3.out.keep fun b hb => K4.out.kq hb (by have h1 := hb.1; have h2 := hb.2; omega))
    have Dm4 := LH (Dm3.out.keep fun b hb => K4.out.kq hb (by have h1 := hb.1; have h2 := hb.2; omega))
    have GG4 := LH (GG3.out.keepP (w' := w4) (by omega) fun b hb h => K4.out.block b hb (by
      rcases h with h | h
      · have := GG3.out.own b h; omega
      · obtain ⟨x1, x2, x3⟩ := h; omega))
    have M4 := LH (M3.out.below hb4)
    clear Rr3 RN3 DT3 DV3 Dm3 GG3 M3
    clear hb4
    have hcu4 := fun i => M4.out.row.cell i
    have hlu4 := M4.out.row.lt
    have hcr4 := fun i => Rr4.out.cell i
    have hlr4 := Rr4.out.lt
    have hca4 := fun i => Ra4.out.cell i
    have hla4 := Ra4.out.lt
    clear HNW
    have hnov := H5.out
    have HTD := LH (fun (x : World) (hx : GProg.At x (Lt x.heap.size) A c Am cm ⟨acc, m⟩) => specTidy ⟨acc, m⟩ A c Am cm x H7.out hx)
    have HPA := LH (show GProg.At w4 (fun b => w.heap.size < b ∧ b < w4.heap.size) A c Am cm ⟨acc, m⟩ from ⟨(sl_of_grx (X := fun b => w.heap.size < b ∧ b ≠ g ∧ b ≠ na) GG4.out (fun b h => ⟨by omega, by omega, by omega⟩)).keep fun b hb => ⟨⟨hb.2.1, hb.1⟩, rfl⟩, Dm4.out.keep fun b hb => ⟨⟨by have h1 := hb.1; omega, by have h2 := hb.2; omega⟩, rfl⟩⟩)
    go_wp2_with fail
    refine (HTD.out w4 ⟨HPA.out.1.keep fun b hb => ⟨hb.2, rfl⟩, HPA.out.2.keep fun b hb => ⟨hb.2, rfl⟩⟩).mono ?_
    clear hcu4 hlu4 hcr4 hlr4 hca4 hla4
    rintro e w5 ⟨rfl, hb⟩
    have hz5 := hb.size
    have Rr5 := LH (Rr4.out.below hb Rr4.out.lt)
    have Ra5 := LH (Ra4.out.below hb Ra4.out.lt)
    have HPB := LH (show GProg.At w5 (fun b => w.heap.size < b ∧ b < w5.heap.size) A c Am cm ⟨acc, m⟩ from ⟨HPA.out.1.keep fun b hb2 => ⟨⟨hb2.1, by have h2 := hb2.2; omega⟩, hb.block b hb2.2⟩, HPA.out.2.keep fun b hb2 => ⟨⟨hb2.1, by have h2 := hb2.2; omega⟩, hb.block b hb2.2⟩⟩)
    have BB := LH (Bx.of_below (g := g) hb (Nat.le_refl _))
    have BW := LH (((M4.out.bx.trans BB.out).below (B := w.heap.size) (Nat.le_refl _) (by omega)))
    have htd : tidyP ⟨acc, m⟩ = true := H6.out
    clear hb HPA
    have hcr5 := fun i => Rr5.out.cell i
    have hfr5 := fun i => Rr5.out.frozen i
    have hlr5 := Rr5.out.lt
    have hca5 := fun i => Ra5.out.cell i
    have hfa5 := fun i => Ra5.out.frozen i
    have hla5 := Ra5.out.lt
    go_wp2_with fail
    clear hcr5 hca5
    obtain ⟨wz, ez, RZ, hzz, KZ⟩ := stored6 Rr5.out (.slice A acc.length c) (.int .i64 m.op) (.int .i64 m.n) (.string m.s) (.string m.t) (.slice Am m.kids.length cm)
    rw [← ez]
    clear ez
    have hcz := fun i => RZ.out.cell i
    show BP _ _
    rw [HBP.out]
    refine bodyPost_ret (v := .tuple #[.agg #[.slice A acc.length c, .int .i64 m.op, .int .i64 m.n, .string m.s, .string m.t, .slice Am m.kids.length cm], .int .i64 (-1)]) (by simp [results, Tryz.results29, go_sem, hcz]) rfl ?_
    obtain rfl := HXA.out
    refine ⟨A, c, Am, cm, rfl, ⟨HPB.out.1.keep fun b hb => ⟨⟨by have h1 := hb.1; omega, by have h2 := hb.2; omega⟩, KZ.out.block b hb.2 (by have h1 := hb.1; omega)⟩, HPB.out.2.keep fun b hb => ⟨⟨by have h1 := hb.1; omega, by have h2 := hb.2; omega⟩, KZ.out.block b hb.2 (by have h1 := hb.1; omega)⟩⟩, BW.out.trans (KZ.out.below (by omega) (Nat.le_refl _))⟩
   ·
    simp [pDatas, hs0, Option.bind_eq_some_iff] at hx
    obtain ⟨n1, s3, hq, hr⟩ := hx
    have HR := LH hr
    have HQ := LH hq
    clear hr hq
    have HOW := LH (fun q (hq : (Value.slice A acc.length c).ownBlock = some q) => GG1.out.own q hq)
    have HOWr := LH (show ∀ q, (Value.slice A acc.length c).ownBlock = some q → na + 1 ≤ q ∧ q < w1.heap.size from HOW.out)
    have NON0 := LH (show (Value.slice A acc.length c).ownBlock ≠ some na from fun e => by have := (HOW.out _ e).1; omega)
    go_upto_region 7 with (fail)
    refine wp_region_T (fun x => x.cell? ⟨na, 0, none⟩ = some (.slice A acc.length c)) 7 (by kernel_rfl) ?_
    clear hcu1 hlu1 hcr1 hlr1 hca1 hla1
    obtain ⟨w2, e2⟩ : ∃ x, x = w1.drew := ⟨_, rfl⟩
    rw [← e2]
    have hz2 : w2.heap.size ≤ w1.heap.size ∧ w1.heap.size ≤ w2.heap.size := by rw [e2]; exact ⟨Nat.le_refl _, Nat.le_refl _⟩
    have K2 := LH (show Bx w1.heap.size w1 w2 by rw [e2]; exact Bx.of_below ((Below.refl _ _).drew) (Nat.le_refl _))
    clear e2
    have Rr2 := LH (K2.out.row Rr1.out (by omega))
    have Ra2 := LH (K2.out.row Ra1.out (by omega))
    have DT2 := LH (DT1.out.keep fun b hb => K2.out.kq hb (by have h1 := hb.1; have h2 := hb.2; omega))
    have DV2 := LH (DV1.out.keep fun b hb => K2.out.kq hb (by have h1 := hb.1; have h2 := hb.2; omega))
    have GG2 := LH (GG1.out.keepP (w' := w2) (by omega) fun b hb h => K2.out.block b hb (by
      rcases h with h | h
      · have := GG1.out.own b h; have hbn : b ≠ na := fun e => NON0.out (by rw [← e]; exact h); omega
      · obtain ⟨x1, x2, x3⟩ := h; omega))
    have M2 := LH (M1.out.chg2 K2.out (by omega) (by omega))
    clear Rr1 Ra1 DT1 DV1 GG1 M1
    have hcu2 := fun i => M2.out.row.cell i
    have hlu2 := M2.out.row.lt
    have hcr2 := fun i => Rr2.out.cell i
    have hlr2 := Rr2.out.lt
    have hca2 := fun i => Ra2.out.cell i
    have hfa2 := fun i => Ra2.out.frozen i
    have hla2 := Ra2.out.lt
    have hS1 : w2.cell? ⟨na, 0, none⟩ = some (.slice A acc.length c) := Ra2.out.cell 0
    refine wpAnyT_tk (i := 0) (oi := _) (v := ?tv1) rfl (Or.inl ⟨by rfl, ?th1⟩) hS1 ?_
    case th1 => (intro x hSx; (try dsimp only at hSx); go_simp; (try with_reducible rfl))
    try simp only [List.getElem_toArray, List.getElem_cons_succ, List.getElem_cons_zero, Act.put, List.setIfInBounds_toArray, List.set_cons_zero, List.set_cons_succ]
    refine wpAnyT_tk (i := 1) (oi := _) (v := ?tv2) rfl (Or.inl ⟨by rfl, ?th2⟩) hS1 ?_
    case th2 => (intro x hSx; (try dsimp only at hSx); go_simp; (try with_reducible rfl))
    try simp only [List.getElem_toArray, List.getElem_cons_succ, List.getElem_cons_zero, Act.put, List.setIfInBounds_toArray, List.set_cons_zero, List.set_cons_succ]
    refine wpAnyT_tk (i := 2) (oi := _) (v := ?tv3) rfl (Or.inl ⟨by rfl, ?th3⟩) hS1 ?_
    case th3 => (intro x hSx; (try dsimp only at hSx); go_simp; (try with_reducible rfl))
    try simp only [List.getElem_toArray, List.getElem_cons_succ, List.getElem_cons_zero, Act.put, List.setIfInBounds_toArray, List.set_cons_zero, List.set_cons_succ]
    refine wpAnyT_step (i := 3) (by kernel_rfl) rfl (fun K hK => ?_)
    try simp only [List.getElem_toArray, List.getElem_cons_succ, List.getElem_cons_zero]
    go_simp
    go_at_call 52
    refine (l3Data j (by omega) ts g L cl V cv s w2 (M2.out.cur3 (DT2.out.keep fun b hb => ⟨⟨by have h1 := hb.1; have h2 := hb.2; omega, by have h1 := hb.1; have h2 := hb.2; omega⟩, rfl⟩) (DV2.out.keep fun b hb => ⟨⟨by have h1 := hb.1; have h2 := hb.2; omega, by have h1 := hb.1; have h2 := hb.2; omega⟩, rfl⟩) hfew) n1 s3 HQ.out).mono ?_
    clear hcu2 hlu2 hcr2 hlr2 hca2 hfa2 hla2
    rintro e w3 ⟨An1, cn1, V2, cv2, vs2, rfl, ha, hm, hv⟩
    have hz3 := hm.size
    have K3 := LH hm.bx
    have DN3 := LH ha
    have DV3 := LH hv
    have Rr3 := LH (K3.out.row Rr2.out (by omega))
    have Ra3 := LH (K3.out.row Ra2.out (by omega))
    have DT3 := LH (DT2.out.keep fun b hb => K3.out.kq hb (by have h1 := hb.1; have h2 := hb.2; omega))
    have GG3 := LH (GG2.out.keepP (w' := w3) (by omega) fun b hb h => K3.out.block b hb (by
      rcases h with h | h
      · have := GG2.out.own b h; have hbn : b ≠ na := fun e => NON0.out (by rw [← e]; exact h); omega
      · obtain ⟨x1, x2, x3⟩ := h; omega))
    clear Rr2 Ra2 DT2 GG2
    have M3 := LH (M2.out.trans2 hm)
    clear hm ha hv M2 DV2
    have hcu3 := fun i => M3.out.row.cell i
    have hlu3 := M3.out.row.lt
    have hcr3 := fun i => Rr3.out.cell i
    have hlr3 := Rr3.out.lt
    have hca3 := fun i => Ra3.out.cell i
    have hla3 := Ra3.out.lt
    have hS2 : w3.cell? ⟨na, 0, none⟩ = some (.slice A acc.length c) := Ra3.out.cell 0
    refine hK.out _ _ hS2 (fun hS3 => ?_)
    clear hK K hS1 hS2
    try simp only [List.getElem_toArray, List.getElem_cons_succ, List.getElem_cons_zero, Act.put, List.setIfInBounds_toArray, List.set_cons_zero, List.set_cons_succ]
    refine wpAnyT_step (i := 4) (by kernel_rfl) rfl (fun K hK => ?_)
    try simp only [List.getElem_toArray, List.getElem_cons_succ, List.getElem_cons_zero]
    go_simp
    clear hcu3 hlu3 hcr3 hlr3 hca3 hla3
    obtain ⟨w4, e4, Rrow4, hz4, K4⟩ := boxed w3 92 #[.string n1.name, .int .i64 n1.vars, .slice An1 n1.cons.length cn1]
    have Rr4 := LH (K4.out.row Rr3.out (by omega))
    have Ra4 := LH (K4.out.row Ra3.out (by omega))
    have DT4 := LH (DT3.out.keep fun b hb => K4.out.kq hb (by have h1 := hb.1; have h2 := hb.2; omega))
    have Dn14 := LH (DN3.out.keep fun b hb => K4.out.kq hb (by have h1 := hb.1; have h2 := hb.2; omega))
    have DV4 := LH (DV3.out.keep fun b hb => K4.out.kq hb (by have h1 := hb.1; have h2 := hb.2; omega))
    have GG4 := LH (GG3.out.keepP (w' := w4) (by omega) fun b hb h => K4.out.block b hb (by
      rcases h with h | h
      · have := GG3.out.own b h; have hbn : b ≠ na := fun e => NON0.out (by rw [← e]; exact h); omega
      · obtain ⟨x1, x2, x3⟩ := h; omega))
    have M4 := LH (M3.out.chg2 K4.out (by omega) (by omega))
    clear Rr3 Ra3 DT3 DN3 DV3 GG3 M3
    have SL4 := LH (show Sl w4 (fun b => b < w4.heap.size ∧ (Value.slice A acc.length c).ownBlock ≠ some b ∧ w.heap.size < b ∧ b ≠ g ∧ b ≠ na) 3 (some ⟨w3.heap.size, 0, none⟩) 1 ([n1].map GData.toD) from Sl.ofRow Rrow4.out (rdC_one1 (GData.rd_mk (Dn14.out.keep (w' := w4) (S' := fun b => b < w4.heap.size ∧ (Value.slice A acc.length c).ownBlock ≠ some b ∧ w.heap.size < b ∧ b ≠ g ∧ b ≠ na) fun b hb => ⟨⟨by have h1 := hb.1; have h2 := hb.2; omega, fun e => by have h1 := hb.1; have h3 := (HOW.out b e).2; omega, by have h1 := hb.1; have h2 := hb.2; omega⟩, rfl⟩)) rfl) ⟨by omega, fun e => by have h3 := (HOW.out _ e).2; omega, by omega⟩ (by simp) (by unfold maxLen; omega))
    rw [← e4]
    clear e4
    have hcu4 := fun i => M4.out.row.cell i
    have hlu4 := M4.out.row.lt
    have hcr4 := fun i => Rr4.out.cell i
    have hlr4 := Rr4.out.lt
    have hca4 := fun i => Ra4.out.cell i
    have hla4 := Ra4.out.lt
    have hcrow4 := fun i => Rrow4.out.cell i
    have hlrow4 := Rrow4.out.lt
    have hS4 : w4.cell? ⟨na, 0, none⟩ = some (.slice A acc.length c) := Ra4.out.cell 0
    refine hK.out _ _ hS4 (fun hS5 => ?_)
    clear hK K hS3 hS4
    try simp only [List.getElem_toArray, List.getElem_cons_succ, List.getElem_cons_zero, Act.put, List.setIfInBounds_toArray, List.set_cons_zero, List.set_cons_succ]
    refine wpAnyT_step (i := 5) (by kernel_rfl) rfl (fun K hK => ?_)
    refine step_append_X w4 rfl (.tmp 24) (.tmp 27) 24 rfl 92 zDt 3 48 Tryz.underlying24 (by kernel_rfl) rfl (by omega) (na + 1) (.slice A acc.length c) acc.length _ GG4.out (some ⟨w3.heap.size, 0, none⟩) 1 1 _ rfl SL4.out (by omega) (by unfold maxLen; omega) (by omega) rfl rfl ?_
    clear hcu4 hlu4 hcr4 hlr4 hca4 hla4 hcrow4 hlrow4
    intro A5 c5 w5 hG5 hGr5
    obtain ⟨acc5, hac5⟩ : ∃ x, x = acc ++ [n1] := ⟨_, rfl⟩
    have HAC5 := LH hac5
    have hal5 : acc5.length = acc.length + 1 := by rw [hac5]; simp
    have GN5 := LH (show Grx (fun b => w.heap.size < b ∧ b ≠ g ∧ b ≠ na) w5 (na + 1) 92 3 (.slice A5 acc5.length c5) acc5.length (acc5.map GData.toD) from by rw [hal5, hac5]; simpa using hG5)
    rw [← hal5]
    have HAL5 := LH hal5
    clear hal5 hac5
    have NON5 := LH (show (Value.slice A5 acc5.length c5).ownBlock ≠ some na by rw [HAL5.out]; exact hGr5.ne NON0.out (by omega))
    obtain ⟨q5, hq5, hqn5, hk5⟩ := hGr5.bxn (B := na + 1) (fun q hq => HOW.out q hq) (by omega) NON0.out (by omega)
    have hz5 := hGr5.size
    have K5 := LH hk5
    clear hG5 hGr5 hk5
    have Rr5 := LH (K5.out.row Rr4.out (by omega))
    have Ra5 := LH (K5.out.row Ra4.out (by omega))
    have DT5 := LH (DT4.out.keep fun b hb => K5.out.kq hb (by have h1 := hb.1; have h2 := hb.2; omega))
    have DV5 := LH (DV4.out.keep fun b hb => K5.out.kq hb (by have h1 := hb.1; have h2 := hb.2; omega))
    have M5 := LH (M4.out.chg2 K5.out (by omega) (by omega))
    clear Rr4 Ra4 DT4 DV4 M4
    clear GG4
    have hcu5 := fun i => M5.out.row.cell i
    have hlu5 := M5.out.row.lt
    have hcr5 := fun i => Rr5.out.cell i
    have hfr5 := fun i => Rr5.out.frozen i
    have hlr5 := Rr5.out.lt
    have hca5 := fun i => Ra5.out.cell i
    have hfa5 := fun i => Ra5.out.frozen i
    have hla5 := Ra5.out.lt
    have hS6 : w5.cell? ⟨na, 0, none⟩ = some (.slice A acc.length c) := Ra5.out.cell 0
    refine hK.out _ _ hS6 (fun hS7 => ?_)
    clear hK K hS5 hS6
    try simp only [List.getElem_toArray, List.getElem_cons_succ, List.getElem_cons_zero, Act.put, List.setIfInBounds_toArray, List.set_cons_zero, List.set_cons_succ]
    refine wpAnyT_tk (i := 6) (oi := _) (v := ?tv4) rfl (Or.inl ⟨by rfl, ?th4⟩) hS7 ?_
    case th4 => (intro x hSx; (try dsimp only at hSx); go_simp; (try with_reducible rfl))
    try simp only [List.getElem_toArray, List.getElem_cons_succ, List.getElem_cons_zero, Act.put, List.setIfInBounds_toArray, List.set_cons_zero, List.set_cons_succ]
    refine wpAnyT_last (by kernel_rfl) (by kernel_rfl) rfl (fun K hK => ?_)
    try simp only [List.getElem_toArray, List.getElem_cons_succ, List.getElem_cons_zero]
    go_simp
    refine hK.out _ _ ?_
    clear hK K
    try simp only [List.getElem_toArray, List.getElem_cons_succ, List.getElem_cons_zero, Act.put, List.setIfInBounds_toArray, List.set_cons_zero, List.set_cons_succ]
    clear hS7 HOW
    clear hcu5 hlu5 hcr5 hfr5 hlr5 hca5 hfa5 hla5
    obtain ⟨w6, e6, RO6, hz6, K6⟩ := storedF Ra5.out 0 (.slice A5 acc5.length c5)
    have RN6 := LH (show Row w6 na 82 #[.slice A5 acc5.length c5, .int .i64 0, .int .i64 0, .string ⟨#[]⟩, .string ⟨#[]⟩, .slice none 0 0] from RO6.out)
    clear RO6
    have Rr6 := LH (K6.out.row Rr5.out (by omega))
    have DT6 := LH (DT5.out.keep fun b hb => K6.out.kq hb (by have h1 := hb.1; have h2 := hb.2; omega))
    have DV6 := LH (DV5.out.keep fun b hb => K6.out.kq hb (by have h1 := hb.1; have h2 := hb.2; omega))
    have GG6 := LH (GN5.out.keepP (w' := w6) (by omega) fun b hb h => K6.out.block b hb (by
      rcases h with h | h
      · have := GN5.out.own b h; have hbn : b ≠ na := fun e => NON5.out (by rw [← e]; exact h); omega
      · obtain ⟨x1, x2, x3⟩ := h; omega))
    have M6 := LH (M5.out.chg2 K6.out (by omega) (by omega))
    clear Rr5 DT5 DV5 GN5 M5
    clear Ra5
    rw [← e6]
    clear e6
    have hcu6 := fun i => M6.out.row.cell i
    have hlu6 := M6.out.row.lt
    have hcr6 := fun i => Rr6.out.cell i
    have hlr6 := Rr6.out.lt
    have hca6 := fun i => RN6.out.cell i
    have hla6 := RN6.out.lt
    have hall := HAL5.out
    have HN : I j w6 := by
     rw [HI.out]
     exact ⟨acc5, s3, A5, c5, V2, cv2, vs2, (by rw [HAC5.out]; exact HR.out), by omega, by omega, RN6.out, Rr6.out, GG6.out, M6.out, DT6.out, DV6.out.keep fun b hb => ⟨⟨by have h2 := hb.2; omega, by have h1 := hb.1; omega, by have h1 := hb.1; omega, by have h1 := hb.1; omega⟩, rfl⟩, by omega⟩
    go_roundw
    case rel => first | exact ⟨j, HN⟩ | ((repeat apply Exists.intro); exact ⟨⟨j, HN⟩, rfl⟩)
    case measure => rw [HJ.out]; exact Nat.lt_succ_of_le (leastK_le (I := fun j => I j w6) HN)
set_option maxRecDepth 100000
def litP (l : List UInt8) : Option GProg :=
 (tokN 400 l 0 []).bind fun ts => (pDatas ts 400 ⟨0, -1, [], false⟩ []).bind fun ds => (pE ts 400 ds.2).bind fun e =>
  if (decide (e.2.bad < 0) && ((pNow ts e.2).kind == 0 && !e.2.nov)) then some ⟨ds.1, e.1⟩ else none
def litB (p : GProg) : Bool := tidyP p && decide (p.bulk ≤ 10000)
def litOk (l : List UInt8) : Bool := match litP l with | some p => litB p | none => false
theorem parseLit (src : ByteArray) (p : GProg) (hp : litP src.data.toList = some p) (hb : litB p = true) (hs : src.size ≤ 3000) (w : World) : Calls Tryz.prog 29 #[.string src] w (PToProg p w) := by
 unfold litP at hp
 obtain ⟨ts, h0, hp⟩ := Option.bind_eq_some_iff.1 hp
 obtain ⟨⟨ds, s1⟩, h1, hp⟩ := Option.bind_eq_some_iff.1 hp
 obtain ⟨⟨m, s2⟩, h2, hp⟩ := Option.bind_eq_some_iff.1 hp
 dsimp only at h2 hp
 split at hp
 ·
  rename_i hc
  simp only [Bool.and_eq_true, decide_eq_true_eq, beq_iff_eq, Bool.not_eq_true'] at hc
  obtain ⟨h3, h4, h5⟩ := hc
  obtain rfl : (⟨ds, m⟩ : GProg) = p := by simpa using hp
  unfold litB at hb
  simp only [Bool.and_eq_true, decide_eq_true_eq] at hb
  exact l3Parse 400 (by omega) src w hs ts ds s1 m s2 h0 h1 h2 h3 h4 h5 hb.1 (by omega)
 · cases hp
theorem parseOk (src : ByteArray) (h : litOk src.data.toList = true) (hs : src.size ≤ 3000) (w : World) :
 Calls Tryz.prog 29 #[.string src] w fun e w' => ∃ p : GProg, (litP src.data.toList = some p ∧ litB p = true) ∧ PToProg p w e w' := by
 unfold litOk at h
 split at h
 · rename_i p hp
   exact (parseLit src p hp h hs w).mono fun e w' hh => ⟨p, ⟨hp, h⟩, hh⟩
 · cases h
def datasText : ByteArray := ⟨#[100, 97, 116, 97, 32, 79, 112, 116, 32, 97, 32, 61, 32, 78, 111, 110, 101, 32, 124, 32, 83, 111, 109, 101, 32, 97, 59, 32, 100, 97, 116, 97, 32, 76, 105, 115, 116, 32, 97, 32, 61, 32, 78, 105, 108, 32, 124, 32, 67, 111, 110, 115, 32, 97, 32, 40, 76, 105, 115, 116, 32, 97, 41, 59, 32, 100, 97, 116, 97, 32, 85, 110, 105, 116, 32, 61, 32, 85, 110, 105, 116, 59, 32, 48]⟩
theorem datasText_ok : litOk datasText.data.toList = true := by decide +kernel
set_option maxHeartbeats 1000000
def Datas9 (ds : List GData) : Prop := ∃ p : GProg, (litP datasText.data.toList = some p ∧ litB p = true) ∧ p.datas = ds
theorem Datas9.bulk {ds : List GData} (h : Datas9 ds) : bulkL GData.bulk ds ≤ 10000 := by
 obtain ⟨p, ⟨-, hb⟩, rfl⟩ := h
 unfold litB at hb
 simp only [Bool.and_eq_true, decide_eq_true_eq] at hb
 have := p.bulk_eq
 omega
theorem drawDatas9 (w : World) : Calls Tryz.prog 14 #[] w fun e w' => ∃ ds A c, e = .returned (.slice A ds.length c) ∧ Datas9 ds ∧ Sl w' (fun b => w.heap.size ≤ b ∧ b < w'.heap.size) 3 A c (ds.map GData.toD) ∧ Below w.heap.size w w' := by
 have HP := LH (fun x : World => parseOk datasText datasText_ok (by decide) x)
 go_enter Tryz.func14, Tryz.ntmps14
 go_wp2_with fail
 refine (HP.out w).mono ?_
 rintro e w1 ⟨p, hp, A1, c1, A2, c2, rfl, hat, hb⟩
 obtain ⟨w2, e2, R2, hz2, K2⟩ := boxed w1 82 #[.slice A1 p.datas.length c1, .int .i64 p.main.op, .int .i64 p.main.n, .string p.main.s, .string p.main.t, .slice A2 p.main.kids.length c2]
 have hc2 := fun k => R2.out.cell k
 have hl2 := R2.out.lt
 have B2 := LH (show Below w.heap.size w w2 by rw [e2]; exact hb.alloc hb.size _)
 have S2 := LH (hat.1.keep (w' := w2) (S' := fun b => w.heap.size ≤ b ∧ b < w2.heap.size) fun b hb => ⟨⟨hb.1, by have := hb.2; omega⟩, K2.out.block b hb.2 (by have := hb.2; omega)⟩)
 have HP2 := LH hp
 clear hat hb hp HP
 go_wp2_with fail
 rw [← e2]
 go_wp2_with fail
 go_ret
 exact ⟨p.datas, A1, c1, rfl, ⟨p, HP2.out, rfl⟩, S2.out, B2.out⟩
def altN (p : GNode) (j : Nat) : GNode := .mk 8 0 ⟨#[]⟩ ⟨#[]⟩ [p, .mk 1 j ⟨#[]⟩ ⟨#[]⟩ []]
def AltsD (Q : GNode → Prop) (alts : List GNode) : Prop := alts.length ≤ 5 ∧ ∀ j (h : j < alts.length), ∃ p, Q p ∧ alts[j] = altN p j
theorem AltsD.snoc {Q : GNode → Prop} {alts : List GNode} {p : GNode} (h : AltsD Q alts) (hp : Q p) (hl : alts.length < 5) : AltsD Q (alts ++ [altN p alts.length]) := by
 refine ⟨by simp; omega, fun j hj => ?_⟩
 rw [List.getElem_append]
 split
 · rename_i h1; exact h.2 j h1
 · rename_i h1
   have : j = alts.length := by simp at hj; omega
   subst this
   exact ⟨p, hp, by simp⟩
def DrawnAlts (Q : GNode → Prop) (w : World) (e : Ending) (w' : World) : Prop :=
 ∃ ds A1 c1 alts A2 c2 v A3 c3, e = .returned (.tuple #[.slice A1 (List.length ds) c1, .slice A2 (List.length alts) c2, .agg #[.int .i64 (GValue.kind v), .int .i64 (GValue.n v), .string (GValue.s v), .slice A3 (GValue.kids v).length c3]]) ∧
  Datas9 ds ∧ AltsD Q alts ∧ valL 3 v ∧ Sl w' (fun b => w.heap.size ≤ b ∧ b < w'.heap.size) 3 A1 c1 (ds.map GData.toD) ∧ Sl w' (fun b => w.heap.size ≤ b ∧ b < w'.heap.size) 5 A2 c2 (alts.map GNode.toD) ∧ GValue.At w' (fun b => w.heap.size ≤ b ∧ b < w'.heap.size) A3 c3 v ∧ Below w.heap.size w w'
theorem altAt {w : World} {S : Nat → Prop} {g : Nat} {T : TypeId} {p : GNode} {j : Nat} {A1 : Option Addr} {c1 : Nat} (hj : j ≤ 1000) (hr : Row w g T #[.int .i64 p.op, .int .i64 p.n, .string p.s, .string p.t, .slice A1 p.kids.length c1, .int .i64 1, .int .i64 j, .string ⟨#[]⟩, .string ⟨#[]⟩, .slice none 0 0]) (hp : GNode.At w S A1 c1 p) (hg : S g) : GNode.At w S (some ⟨g, 0, none⟩) 2 (altN p j) :=
 ⟨show (Lit.int .i64 8).wf = true by decide, show (Lit.int .i64 0).wf = true by decide, empty_le, empty_le,
   Sl.ofRow (xs := [p.toD, (GNode.mk 1 j ⟨#[]⟩ ⟨#[]⟩ []).toD]) hr (rdC_cons (GNode.rd_mk hp) rfl (rdC_one1 (GNode.rd_mk (GNode.leaf (show (Lit.int .i64 1).wf = true by decide) (int_wfS (by omega)) empty_le empty_le)) rfl)) hg (by simp) (by unfold maxLen; omega)⟩
theorem drawAltsValue (l : List Int) (A : Option Addr) (c : Nat) (w : World) (hs : Sl w (Lt w.heap.size) 1 A c (l.map (D.num .u8))) (hl : l.length ≤ 1048576) :
 Calls Tryz.prog 5 #[.slice A l.length c] w (DrawnAlts (patD 3) w) := by
 obtain ⟨w1, e1, R1, hz1, K1⟩ := boxed w 28 #[.int .i64 0, .int .i64 0, .string ⟨#[]⟩, .slice none 0 0]
 have B1 := LH (show Below w.heap.size w w1 by rw [e1]; exact (Below.refl _ _).alloc (Nat.le_refl _) _)
 have HN := LH (newCur l A c w1 (hs.below B1.out (by omega)) hl)
 clear hs
 go_enter Tryz.func5, Tryz.ntmps5
 refine wp_hide (fun BP hBP => ?_)
 have HBP := LH hBP
 clear hBP
 go_wp2_with fail
 rw [← e1]
 clear e1
 refine HN.out.mono ?_
 rintro e w2 ⟨h0, rfl, hc, hb⟩
 have hgl := hc.row.lt
 have R2 := LH (R1.out.below hb R1.out.lt)
 have B2 := LH (B1.out.trans (hb.mono (by omega)))
 obtain ⟨g, hg⟩ : ∃ g, w1.heap.size = g := ⟨_, rfl⟩
 rw [hg] at hc hgl ⊢
 have hwg : w.heap.size < g := by omega
 have M2 := LH (Dm.start hc)
 clear hc hb hz1 K1 R1 B1 HN hg
 obtain ⟨w3, e3, R3, hz3, K3⟩ := boxed w2 39 #[]
 have M3 := LH (M2.out.chg K3.out (by omega) hgl)
 have B3 := LH (show Below w.heap.size w w3 by rw [e3]; exact B2.out.alloc B2.out.size _)
 have Rr3 := LH (K3.out.row R2.out (by omega))
 have G3 := LH (show Grx (fun b => w2.heap.size ≤ b) w3 w2.heap.size 39 5 (.slice (some ⟨w2.heap.size, 0, none⟩) 0 0) 0 [] from Grx.made R3.out (Nat.le_refl _))
 go_wp2_with fail
 rw [← e3]
 clear e3 K3 M2 R2 B2 R3
 go_loopw [6, 7] (fun v i wr => ∃ (j : Nat) (alts : List GNode) (A' : Option Addr) (c' : Nat), i = .int .i64 j ∧ v = .slice A' alts.length c' ∧ alts.length = j ∧ Hid (AltsD (patD 3) alts) ∧ Hid (Row wr w.heap.size 28 #[.int .i64 0, .int .i64 0, .string ⟨#[]⟩, .slice none 0 0]) ∧ Hid (Grx (fun b => w2.heap.size ≤ b) wr w2.heap.size 39 5 (.slice A' alts.length c') alts.length (alts.map GNode.toD)) ∧ Hid (Dm l A c g w2 wr) ∧ Hid (Below w.heap.size w wr)) (fun _ i _ => 5 - (intOf i).toNat)
 case atStart => exact ⟨0, [], _, _, by go_num, rfl, rfl, LH ⟨by simp, fun j h => by simp at h⟩, Rr3, G3, M3, B3⟩
 case round =>
  clear Rr3 G3 M3 B3 hz3
  obtain ⟨j, alts, A', c', rfl, rfl, hjl, HA, HR, HG, HM, HB⟩ := hrel
  have hz2 := HM.out.size
  have hj5 : j ≤ 5 := by have := HA.out.1; omega
  have HJL := LH hjl
  clear hjl
  go_wp2_with fail
  refine (drawBelowD HM.out 5 (by omega) (by omega)).mono ?_
  rintro e w4 ⟨x, rfl, hx, hm⟩
  have hz4 := hm.size
  have M4 := LH (HM.out.trans hm)
  have R4 := LH (hm.bx.row HR.out (by omega))
  have B4 := LH (HB.out.trans (hm.bx.below (B := w.heap.size) (by have := HB.out.size; omega) (by omega)))
  have G4 := LH (HG.out.keepP (w' := w4) (by omega) fun b hb h => hm.bx.block b hb (by
    rcases h with h | h
    · have := HG.out.own b h; omega
    · have h2 : w2.heap.size ≤ b := h; omega))
  have hw1 : IntKind.i64.wrap (1 + x) = 1 + x := (IntWalk.i64_left _).trans (IntWalk.wrap64_in (1 + x) (by omega))
  have hw2 : IntKind.i64.wrap ((j : Int) + 1) = (j : Int) + 1 := (IntWalk.i64_left _).trans (IntWalk.wrap64_in ((j : Int) + 1) (by omega))
  clear hm HR HM HB HG
  by_cases hlt : (j : Int) < 1 + x
  ·
   have dl : decide ((j : Int) < 1 + x) = true := decide_eq_true hlt
   have HOW := LH (fun q (hq : (Value.slice A' alts.length c').ownBlock = some q) => G4.out.own q hq)
   go_wp2_with fail
   refine (drawOf 3 3 0 rfl (by omega) (by omega) M4.out).mono ?_
   rintro e w5 ⟨p, A1, c1, rfl, hp, hat, hm⟩
   have hz5 := hm.size
   have HP := LH hp
   have M5 := LH (M4.out.trans hm)
   have R5 := LH (hm.bx.row R4.out (by omega))
   have B5 := LH (B4.out.trans (hm.bx.below (B := w.heap.size) (by have := B4.out.size; omega) (by omega)))
   have G5 := LH (G4.out.keepP (w' := w5) (by omega) fun b hb h => hm.bx.block b hb (by
     rcases h with h | h
     · have := G4.out.own b h; omega
     · have h2 : w2.heap.size ≤ b := h; omega))
   obtain ⟨w6, e6, R6, hz6, K6⟩ := boxed w5 39 #[.int .i64 p.op, .int .i64 p.n, .string p.s, .string p.t, .slice A1 p.kids.length c1, .int .i64 1, .int .i64 j, .string ⟨#[]⟩, .string ⟨#[]⟩, .slice none 0 0]
   obtain ⟨w7, e7, R7, hz7, K7⟩ := boxed w6 39 #[.int .i64 8, .int .i64 0, .string ⟨#[]⟩, .string ⟨#[]⟩, .slice (some ⟨w5.heap.size, 0, none⟩) 2 2]
   rw [hz6] at R7
   have R67 := LH (K7.out.row R6.out (by omega))
   have E7 := LH (show Below w5.heap.size w5 w7 by rw [e7, e6]; exact ((Below.refl _ _).alloc (Nat.le_refl _) _).alloc (by simp) _)
   have M7 := LH (M5.out.below E7.out)
   have Rr7 := LH (R5.out.below E7.out R5.out.lt)
   have B7 := LH (B5.out.trans (E7.out.mono (by have := B5.out.size; omega)))
   have G7 := LH (G5.out.below E7.out)
   have AA := LH (altAt (w := w7) (S := fun b => b < w7.heap.size ∧ (Value.slice A' alts.length c').ownBlock ≠ some b ∧ w2.heap.size ≤ b) (p := p) (j := j) (by omega) R67.out (hat.keep fun b hb => ⟨⟨by have := hb.2; omega, fun e => by have := (HOW.out b e).2; have := hb.1; omega, by have := hb.1; omega⟩, E7.out.block b hb.2⟩) ⟨by omega, fun e => by have := (HOW.out _ e).2; omega, by omega⟩)
   have T7 := LH (show Sl w7 (fun b => b < w7.heap.size ∧ (Value.slice A' alts.length c').ownBlock ≠ some b ∧ w2.heap.size ≤ b) 5 (some ⟨w5.heap.size + 1, 0, none⟩) 1 ([altN p j].map GNode.toD) from
     Sl.ofRow R7.out (rdC_one1 (GNode.rd_mk AA.out) rfl) ⟨by omega, fun e => by have := (HOW.out _ e).2; omega, by omega⟩ (by simp) (by unfold maxLen; omega))
   have hal : alts.length ≤ 5 := HA.out.1
   clear hm hat hp K6 K7 R6 R5 G5 B5 M5 AA
   go_wp2_with (first | (at_builtin; rw [← e6, ← e7]; refine wpList_append_X w7 rfl (.tmp 18) (.tmp 25) 25 rfl 39 zNd 5 72 Tryz.underlying25 (by kernel_rfl) rfl (by omega) w2.heap.size (.slice A' alts.length c') alts.length _ G7.out (some ⟨w5.heap.size + 1, 0, none⟩) 1 1 _ rfl T7.out (by omega) (by unfold maxLen; omega) (by omega) rfl rfl ?_; intro A8 c8 w8 G8 hGr8; obtain ⟨q8, hq8, hk8⟩ := hGr8.bxe (B := w2.heap.size) (fun q hq => (HOW.out q hq).1) (by omega); have G8h := LH G8; have M8 := LH (M7.out.chg hk8 hq8 hgl); have Rr8 := LH (hk8.row Rr7.out (by omega)); have B8 := LH (B7.out.trans (hk8.below (B := w.heap.size) (by have := B7.out.size; omega) (by omega))); clear G8 hGr8 hk8))
   obtain ⟨alts2, hal2⟩ : ∃ x, x = alts ++ [altN p j] := ⟨_, rfl⟩
   have hl2 : alts2.length = alts.length + 1 := by rw [hal2]; simp
   have HA2 := LH (show AltsD (patD 3) alts2 by rw [hal2, ← HJL.out]; exact HA.out.snoc HP.out (by have := HJL.out; omega))
   go_roundw
   case rel => exact ⟨j + 1, alts2, A8, c8, by go_num, by rw [hl2], by rw [hl2, HJL.out], HA2, Rr8, LH (by rw [hl2, hal2]; simpa using G8h.out), M8, B8⟩
   case measure => simp [intOf]; omega
  ·
   have dl : decide ((j : Int) < 1 + x) = false := decide_eq_false hlt
   go_wp2_with fail
   refine (drawDatas9 w4).mono ?_
   rintro e w5 ⟨ds, A1, c1, rfl, hd, hsl, hb⟩
   have hz5 := hb.size
   have HD := LH hd
   have M5 := LH (M4.out.below hb)
   have R5 := LH (R4.out.below hb R4.out.lt)
   have B5 := LH (B4.out.trans (hb.mono (by have := B4.out.size; omega)))
   have G5 := LH (G4.out.below hb)
   have D5 := LH hsl
   clear hb hsl hd
   go_wp2_with fail
   refine (drawValL 3 3 rfl (by omega) M5.out).mono ?_
   rintro e w6 ⟨v, A3, c3, rfl, hv, hat, hm⟩
   have hz6 := hm.size
   have HV := LH hv
   have R6 := LH (hm.bx.row R5.out (by omega))
   have B6 := LH (B5.out.trans (hm.bx.below (B := w.heap.size) (by have := B5.out.size; omega) (by omega)))
   have G6 := LH (G5.out.keepP (w' := w6) (by omega) fun b hb h => hm.bx.block b hb (by
     rcases h with h | h
     · have := G5.out.own b h; omega
     · have h2 : w2.heap.size ≤ b := h; omega))
   have S6 := LH ((sl_of_grx G6.out (fun b h => h)))
   have D6 := LH (D5.out.keep (w' := w6) (S' := fun b => w2.heap.size ≤ b ∧ b < w6.heap.size) fun b hb => ⟨⟨by have := hb.1; omega, by have := hb.2; omega⟩, hm.bx.block b hb.2 (by have := hb.1; omega)⟩)
   have V6 := LH hat
   have hc6 := fun k => R6.out.cell k
   have hf6 := fun k => R6.out.frozen k
   have hl6 := R6.out.lt
   clear hm hat hv D5 G5 G6 R5
   go_wp2_with fail
   obtain ⟨w7, e7, R7, hz7, K7⟩ := stored4 R6.out (.int .i64 v.kind) (.int .i64 v.n) (.string v.s) (.slice A3 v.kids.length c3)
   rw [← e7]
   have hc7 := fun k => R7.out.cell k
   clear e7 hc6
   show BP _ _
   rw [HBP.out]
   refine bodyPost_ret (v := .tuple #[.slice A1 ds.length c1, .slice A' alts.length c', .agg #[.int .i64 v.kind, .int .i64 v.n, .string v.s, .slice A3 v.kids.length c3]]) (by simp [results, Tryz.results5, go_sem, hc7]) rfl ?_
   refine ⟨ds, A1, c1, alts, A', c', v, A3, c3, rfl, HD.out, HA.out, HV.out, D6.out.keep fun b hb => ⟨⟨by have := hb.1; omega, by have := hb.2; omega⟩, K7.out.block b hb.2 (by have := hb.1; omega)⟩, S6.out.keep fun b hb => ⟨⟨by have := hb.2; omega, by have := hb.1; omega⟩, K7.out.block b hb.1 (by have := hb.2; omega)⟩, V6.out.keep fun b hb => ⟨⟨by have := hb.1; omega, by have := hb.2; omega⟩, K7.out.block b hb.2 (by have := hb.1; omega)⟩, B6.out.trans (K7.out.below (by omega) (Nat.le_refl _))⟩
structure GAsk where
 path : List Int
 pat : GNode
def GAsk.toD (x : GAsk) : D := .agg [.sl 1 (x.path.map (D.num .i64)), x.pat.toD]
def GAsk.At (w : World) (S : Nat → Prop) (A1 : Option Addr) (c1 : Nat) (A2 : Option Addr) (c2 : Nat) (t : GAsk) : Prop :=
 Sl w S 1 A1 c1 (t.path.map (D.num .i64)) ∧ GNode.At w S A2 c2 t.pat
theorem GAsk.rd {w : World} {S : Nat → Prop} {t : GAsk} {cs : List Value} (h : t.toD.rd w S cs) : ∃ A1 c1 A2 c2, cs = [.slice A1 t.path.length c1, .int .i64 t.pat.op, .int .i64 t.pat.n, .string t.pat.s, .string t.pat.t, .slice A2 t.pat.kids.length c2] ∧ GAsk.At w S A1 c1 A2 c2 t := by
 unfold GAsk.toD at h
 rw [D.rd_agg] at h
 rw [D.rdF_cons] at h
 obtain ⟨x0, r0, rfl, k0, h⟩ := h
 obtain ⟨A1, c1, rfl, h0⟩ := D.rd_sl.1 k0
 rw [D.rdF_cons] at h
 obtain ⟨x1, r1, rfl, k1, h⟩ := h
 obtain ⟨A2, c2, rfl, h1⟩ := GNode.rd k1
 obtain rfl := D.rdF_nil.1 h
 exact ⟨A1, c1, A2, c2, by simp [List.length_map], h0, h1⟩
theorem GAsk.rd_mk {w : World} {S : Nat → Prop} {t : GAsk} {A1 : Option Addr} {c1 : Nat} {A2 : Option Addr} {c2 : Nat} (h : GAsk.At w S A1 c1 A2 c2 t) : t.toD.rd w S [.slice A1 t.path.length c1, .int .i64 t.pat.op, .int .i64 t.pat.n, .string t.pat.s, .string t.pat.t, .slice A2 t.pat.kids.length c2] := by
 unfold GAsk.toD
 unfold GAsk.At at h
 obtain ⟨h0, h1⟩ := h
 rw [D.rd_agg]
 exact D.rdF_cons.2 ⟨[_], [_, _, _, _, _], rfl, D.rd_sl.2 ⟨A1, c1, by simp [List.length_map], h0⟩, D.rdF_cons.2 ⟨[_, _, _, _, _], [], rfl, GNode.rd_mk h1, D.rdF_nil.2 rfl⟩⟩
theorem GAsk.elem {w : World} {S : Nat → Prop} {A : Option Addr} {c : Nat} {l : List GAsk} (h : Sl w S 6 A c (l.map GAsk.toD)) (i : Nat) (hi : i < l.length) :
 ∃ b off A1 c1 A2 c2, A = some ⟨b, off, none⟩ ∧ S b ∧ w.cell? ⟨b, off + i * 6, none⟩ = some (.slice A1 l[i].path.length c1) ∧ w.cell? ⟨b, off + i * 6 + 1, none⟩ = some (.int .i64 l[i].pat.op) ∧ w.cell? ⟨b, off + i * 6 + 2, none⟩ = some (.int .i64 l[i].pat.n) ∧ w.cell? ⟨b, off + i * 6 + 3, none⟩ = some (.string l[i].pat.s) ∧ w.cell? ⟨b, off + i * 6 + 4, none⟩ = some (.string l[i].pat.t) ∧ w.cell? ⟨b, off + i * 6 + 5, none⟩ = some (.slice A2 l[i].pat.kids.length c2) ∧ GAsk.At w S A1 c1 A2 c2 l[i] := by
 obtain ⟨b, off, cs, e, hb, hl, hc, hr⟩ := Sl.get h i (by simpa using hi)
 rw [List.getElem_map] at hr
 obtain ⟨A1, c1, A2, c2, rfl, h1⟩ := GAsk.rd hr
 exact ⟨b, off, A1, c1, A2, c2, e, hb, hc 0 _ rfl, hc 1 _ rfl, hc 2 _ rfl, hc 3 _ rfl, hc 4 _ rfl, hc 5 _ rfl, h1⟩
theorem GAsk.At.keep {w w' : World} {S S' : Nat → Prop} {t : GAsk} {A1 : Option Addr} {c1 : Nat} {A2 : Option Addr} {c2 : Nat} (h : GAsk.At w S A1 c1 A2 c2 t) (hk : ∀ b, S b → S' b ∧ w'.heap[b]? = w.heap[b]?) : GAsk.At w' S' A1 c1 A2 c2 t := by
 unfold GAsk.At at h ⊢
 obtain ⟨h0, h1⟩ := h
 exact ⟨h0.keep hk, h1.keep hk⟩
theorem GAsk.At.below {w w' : World} {B B' : Nat} {t : GAsk} {A1 : Option Addr} {c1 : Nat} {A2 : Option Addr} {c2 : Nat} (h : GAsk.At w (Lt B) A1 c1 A2 c2 t) (hb : Below B w w') (hB : B ≤ B') : GAsk.At w' (Lt B') A1 c1 A2 c2 t :=
 h.keep (keep_below hb hB)
structure GTrow where
 alt : Int
 asks : List GAsk
def GTrow.toD (x : GTrow) : D := .agg [.num .i64 x.alt, .sl 6 (x.asks.map GAsk.toD)]
def GTrow.At (w : World) (S : Nat → Prop) (A1 : Option Addr) (c1 : Nat) (t : GTrow) : Prop :=
 (Lit.int .i64 t.alt).wf = true ∧ Sl w S 6 A1 c1 (t.asks.map GAsk.toD)
theorem GTrow.rd {w : World} {S : Nat → Prop} {t : GTrow} {cs : List Value} (h : t.toD.rd w S cs) : ∃ A1 c1, cs = [.int .i64 t.alt, .slice A1 t.asks.length c1] ∧ GTrow.At w S A1 c1 t := by
 unfold GTrow.toD at h
 rw [D.rd_agg] at h
 rw [D.rdF_cons] at h
 obtain ⟨x0, r0, rfl, k0, h⟩ := h
 obtain ⟨rfl, h0⟩ := D.rd_num.1 k0
 rw [D.rdF_cons] at h
 obtain ⟨x1, r1, rfl, k1, h⟩ := h
 obtain ⟨A1, c1, rfl, h1⟩ := D.rd_sl.1 k1
 obtain rfl := D.rdF_nil.1 h
 exact ⟨A1, c1, by simp [List.length_map], h0, h1⟩
theorem GTrow.rd_mk {w : World} {S : Nat → Prop} {t : GTrow} {A1 : Option Addr} {c1 : Nat} (h : GTrow.At w S A1 c1 t) : t.toD.rd w S [.int .i64 t.alt, .slice A1 t.asks.length c1] := by
 unfold GTrow.toD
 unfold GTrow.At at h
 obtain ⟨h0, h1⟩ := h
 rw [D.rd_agg]
 exact D.rdF_cons.2 ⟨[_], [_], rfl, D.rd_num.2 ⟨rfl, h0⟩, D.rdF_cons.2 ⟨[_], [], rfl, D.rd_sl.2 ⟨A1, c1, by simp [List.length_map], h1⟩, D.rdF_nil.2 rfl⟩⟩
theorem GTrow.elem {w : World} {S : Nat → Prop} {A : Option Addr} {c : Nat} {l : List GTrow} (h : Sl w S 2 A c (l.map GTrow.toD)) (i : Nat) (hi : i < l.length) :
 ∃ b off A1 c1, A = some ⟨b, off, none⟩ ∧ S b ∧ w.cell? ⟨b, off + i * 2, none⟩ = some (.int .i64 l[i].alt) ∧ w.cell? ⟨b, off + i * 2 + 1, none⟩ = some (.slice A1 l[i].asks.length c1) ∧ GTrow.At w S A1 c1 l[i] := by
 obtain ⟨b, off, cs, e, hb, hl, hc, hr⟩ := Sl.get h i (by simpa using hi)
 rw [List.getElem_map] at hr
 obtain ⟨A1, c1, rfl, h1⟩ := GTrow.rd hr
 exact ⟨b, off, A1, c1, e, hb, hc 0 _ rfl, hc 1 _ rfl, h1⟩
theorem GTrow.At.keep {w w' : World} {S S' : Nat → Prop} {t : GTrow} {A1 : Option Addr} {c1 : Nat} (h : GTrow.At w S A1 c1 t) (hk : ∀ b, S b → S' b ∧ w'.heap[b]? = w.heap[b]?) : GTrow.At w' S' A1 c1 t := by
 unfold GTrow.At at h ⊢
 obtain ⟨h0, h1⟩ := h
 exact ⟨h0, h1.keep hk⟩
inductive GTree where
 | mk (op : Int) (n : Int) (path : List Int) (s : ByteArray) (kids : List GTree)
def GTree.op : GTree → Int | .mk x _ _ _ _ => x
def GTree.n : GTree → Int | .mk _ x _ _ _ => x
def GTree.path : GTree → List Int | .mk _ _ x _ _ => x
def GTree.s : GTree → ByteArray | .mk _ _ _ x _ => x
def GTree.kids : GTree → List GTree | .mk _ _ _ _ x => x
mutual
def GTree.toD : GTree → D | .mk op n path s kids => .agg [.num .i64 op, .num .i64 n, .sl 1 (path.map (D.num .i64)), .str s, .sl 5 (GTree.toDs kids)]
def GTree.toDs : List GTree → List D | [] => [] | t :: r => t.toD :: GTree.toDs r
end
theorem GTree.toDs_map : ∀ l : List GTree, GTree.toDs l = l.map GTree.toD
 | [] => rfl
 | t :: r => by simp only [GTree.toDs, List.map_cons, GTree.toDs_map r]
mutual
def GTree.bulk : GTree → Nat | .mk _ _ path s kids => path.length + s.size + GTree.bulks kids
def GTree.bulks : List GTree → Nat | [] => 0 | t :: r => 1 + t.bulk + GTree.bulks r
end
theorem GTree.bulks_eq : ∀ l : List GTree, GTree.bulks l = bulkL GTree.bulk l
 | [] => rfl
 | t :: r => by simp only [GTree.bulks, bulkL, GTree.bulks_eq r]
theorem GTree.bulk_eq (t : GTree) : t.bulk = t.path.length + t.s.size + bulkL GTree.bulk t.kids := by
 cases t; simp only [GTree.bulk, GTree.bulks_eq, GTree.op, GTree.n, GTree.path, GTree.s, GTree.kids]
def GTree.At (w : World) (S : Nat → Prop) (A1 : Option Addr) (c1 : Nat) (A2 : Option Addr) (c2 : Nat) (t : GTree) : Prop :=
 (Lit.int .i64 t.op).wf = true ∧ (Lit.int .i64 t.n).wf = true ∧ Sl w S 1 A1 c1 (t.path.map (D.num .i64)) ∧ t.s.size ≤ maxLen ∧ Sl w S 5 A2 c2 (t.kids.map GTree.toD)
theorem GTree.rd {w : World} {S : Nat → Prop} {t : GTree} {cs : List Value} (h : t.toD.rd w S cs) : ∃ A1 c1 A2 c2, cs = [.int .i64 t.op, .int .i64 t.n, .slice A1 t.path.length c1, .string t.s, .slice A2 t.kids.length c2] ∧ GTree.At w S A1 c1 A2 c2 t := by
 cases t with
 | mk op n path s kids =>
 simp only [GTree.toD, GTree.toDs_map] at h
 rw [D.rd_agg] at h
 rw [D.rdF_cons] at h
 obtain ⟨x0, r0, rfl, k0, h⟩ := h
 obtain ⟨rfl, h0⟩ := D.rd_num.1 k0
 rw [D.rdF_cons] at h
 obtain ⟨x1, r1, rfl, k1, h⟩ := h
 obtain ⟨rfl, h1⟩ := D.rd_num.1 k1
 rw [D.rdF_cons] at h
 obtain ⟨x2, r2, rfl, k2, h⟩ := h
 obtain ⟨A1, c1, rfl, h2⟩ := D.rd_sl.1 k2
 rw [D.rdF_cons] at h
 obtain ⟨x3, r3, rfl, k3, h⟩ := h
 obtain ⟨rfl, h3⟩ := D.rd_str.1 k3
 rw [D.rdF_cons] at h
 obtain ⟨x4, r4, rfl, k4, h⟩ := h
 obtain ⟨A2, c2, rfl, h4⟩ := D.rd_sl.1 k4
 obtain rfl := D.rdF_nil.1 h
 exact ⟨A1, c1, A2, c2, by simp [GTree.op, GTree.n, GTree.path, GTree.s, GTree.kids], h0, h1, h2, h3, h4⟩
theorem GTree.elem {w : World} {S : Nat → Prop} {A : Option Addr} {c : Nat} {l : List GTree} (h : Sl w S 5 A c (l.map GTree.toD)) (i : Nat) (hi : i < l.length) :
 ∃ b off A1 c1 A2 c2, A = some ⟨b, off, none⟩ ∧ S b ∧ w.cell? ⟨b, off + i * 5, none⟩ = some (.int .i64 l[i].op) ∧ w.cell? ⟨b, off + i * 5 + 1, none⟩ = some (.int .i64 l[i].n) ∧ w.cell? ⟨b, off + i * 5 + 2, none⟩ = some (.slice A1 l[i].path.length c1) ∧ w.cell? ⟨b, off + i * 5 + 3, none⟩ = some (.string l[i].s) ∧ w.cell? ⟨b, off + i * 5 + 4, none⟩ = some (.slice A2 l[i].kids.length c2) ∧ GTree.At w S A1 c1 A2 c2 l[i] := by
 obtain ⟨b, off, cs, e, hb, hl, hc, hr⟩ := Sl.get h i (by simpa using hi)
 rw [List.getElem_map] at hr
 obtain ⟨A1, c1, A2, c2, rfl, h1⟩ := GTree.rd hr
 exact ⟨b, off, A1, c1, A2, c2, e, hb, hc 0 _ rfl, hc 1 _ rfl, hc 2 _ rfl, hc 3 _ rfl, hc 4 _ rfl, h1⟩
theorem GTree.At.keep {w w' : World} {S S' : Nat → Prop} {t : GTree} {A1 : Option Addr} {c1 : Nat} {A2 : Option Addr} {c2 : Nat} (h : GTree.At w S A1 c1 A2 c2 t) (hk : ∀ b, S b → S' b ∧ w'.heap[b]? = w.heap[b]?) : GTree.At w' S' A1 c1 A2 c2 t := by
 unfold GTree.At at h ⊢
 obtain ⟨h0, h1, h2, h3, h4⟩ := h
 exact ⟨h0, h1, h2.keep hk, h3, h4.keep hk⟩
theorem GTree.At.below {w w' : World} {B B' : Nat} {t : GTree} {A1 : Option Addr} {c1 : Nat} {A2 : Option Addr} {c2 : Nat} (h : GTree.At w (Lt B) A1 c1 A2 c2 t) (hb : Below B w w') (hB : B ≤ B') : GTree.At w' (Lt B') A1 c1 A2 c2 t :=
 h.keep (keep_below hb hB)
def GTree.Ow (w : World) (S : Nat → Prop) (A1 : Option Addr) (c1 : Nat) (A2 : Option Addr) (c2 : Nat) (t : GTree) : Prop :=
 ∃ S1 S2 : Nat → Prop, (∀ x, S1 x → S x) ∧ (∀ x, S2 x → S x) ∧ (∀ x, S1 x → ¬ S2 x) ∧ (Lit.int .i64 t.op).wf = true ∧ (Lit.int .i64 t.n).wf = true ∧ Osl w S1 1 A1 c1 (t.path.map (D.num .i64)) ∧ t.s.size ≤ maxLen ∧ Osl w S2 5 A2 c2 (t.kids.map GTree.toD)
theorem GTree.own_mk {w : World} {S : Nat → Prop} {t : GTree} {A1 : Option Addr} {c1 : Nat} {A2 : Option Addr} {c2 : Nat} (h : GTree.Ow w S A1 c1 A2 c2 t) : t.toD.own w S [.int .i64 t.op, .int .i64 t.n, .slice A1 t.path.length c1, .string t.s, .slice A2 t.kids.length c2] := by
 cases t with
 | mk op n path s kids =>
 simp only [GTree.toD, GTree.toDs_map]
 unfold GTree.Ow at h
 obtain ⟨S1, S2, g1, g2, d12, h0, h1, h2, h3, h4⟩ := h
 rw [D.own_agg]
 exact D.ownF_plain (c1 := [_]) (c2 := [_, _, _, _]) (D.own_num.2 ⟨rfl, h0⟩) (D.ownF_plain (c1 := [_]) (c2 := [_, _, _]) (D.own_num.2 ⟨rfl, h1⟩) (D.ownF_cons (S := S) (S1 := S1) (S2 := S2) (c1 := [_]) (c2 := [_, _]) (fun x hx => ⟨g1 x hx, fun h => d12 x hx h⟩) (g2) (D.own_sl.2 ⟨A1, c1, by simp [GTree.path], h2⟩) (D.ownF_plain (c1 := [_]) (c2 := [_]) (D.own_str.2 ⟨rfl, h3⟩) (D.ownF_last (D.own_sl.2 ⟨A2, c2, by simp [GTree.kids], h4⟩)))))
theorem GTree.Ow.keep {w w' : World} {S S' : Nat → Prop} {t : GTree} {A1 : Option Addr} {c1 : Nat} {A2 : Option Addr} {c2 : Nat} (h : GTree.Ow w S A1 c1 A2 c2 t) (hk : ∀ b, S b → S' b ∧ w'.heap[b]? = w.heap[b]?) : GTree.Ow w' S' A1 c1 A2 c2 t := by
 unfold GTree.Ow at h ⊢
 obtain ⟨S1, S2, g1, g2, d12, h0, h1, h2, h3, h4⟩ := h
 exact ⟨S1, S2, fun x hx => (hk x (g1 x hx)).1, fun x hx => (hk x (g2 x hx)).1, d12, h0, h1, h2.keep fun b hb => ⟨hb, (hk b (g1 b hb)).2⟩, h3, h4.keep fun b hb => ⟨hb, (hk b (g2 b hb)).2⟩⟩
theorem GTree.Ow.at {w : World} {S : Nat → Prop} {t : GTree} {A1 : Option Addr} {c1 : Nat} {A2 : Option Addr} {c2 : Nat} (h : GTree.Ow w S A1 c1 A2 c2 t) : GTree.At w S A1 c1 A2 c2 t := by
 unfold GTree.Ow at h
 unfold GTree.At
 obtain ⟨S1, S2, g1, g2, d12, h0, h1, h2, h3, h4⟩ := h
 exact ⟨h0, h1, h2.sl.keep fun b hb => ⟨g1 b hb, rfl⟩, h3, h4.sl.keep fun b hb => ⟨g2 b hb, rfl⟩⟩
theorem name_ne {a b : ByteArray} (h : ¬ a = b) : (a.toList == b.toList) = false := by
 rw [beq_eq_false_iff_ne]; intro e; apply h; rw [ByteArray.toList_eq, ByteArray.toList_eq] at e; exact ByteArray.ext (Array.toList_inj.1 e)
def tagIn (s : ByteArray) : List GCon → Nat → Option Nat
 | [], _ => none
 | c :: r, n => if c.name = s then some n else tagIn s r (n + 1)
def tagOf (s : ByteArray) : List GData → Nat → Option Nat
 | [], _ => none
 | d :: r, n => match tagIn s d.cons n with
  | some x => some x
  | none => tagOf s r (n + d.cons.length)
def tagI : Option Nat → Int
 | some n => n
 | none => -1
def consN : List GData → Nat | [] => 0 | d :: r => d.cons.length + consN r
theorem tagIn_hit {s : ByteArray} {l : List GCon} {k n : Nat} (h : k < l.length) (e : l[k].name = s) : tagIn s (l.drop k) n = some n := by
 rw [List.drop_eq_getElem_cons h, tagIn, if_pos e]
theorem tagIn_miss {s : ByteArray} {l : List GCon} {k n : Nat} (h : k < l.length) (e : ¬ l[k].name = s) : tagIn s (l.drop k) n = tagIn s (l.drop (k + 1)) (n + 1) := by
 rw [List.drop_eq_getElem_cons h, tagIn, if_neg e]
theorem tagOf_hit {s : ByteArray} {l : List GData} {j n m : Nat} (h : j < l.length) (e : tagIn s l[j].cons n = some m) : tagOf s (l.drop j) n = some m := by
 rw [List.drop_eq_getElem_cons h, tagOf, e]
theorem tagOf_miss {s : ByteArray} {l : List GData} {j n : Nat} (h : j < l.length) (e : tagIn s l[j].cons n = none) : tagOf s (l.drop j) n = tagOf s (l.drop (j + 1)) (n + l[j].cons.length) := by
 rw [List.drop_eq_getElem_cons h, tagOf, e]
theorem consN_drop {l : List GData} {j : Nat} (h : j < l.length) : consN (l.drop j) = l[j].cons.length + consN (l.drop (j + 1)) := by
 rw [List.drop_eq_getElem_cons h, consN]
theorem implConTag (l : List GData) (A : Option Addr) (c : Nat) (s : ByteArray) (w : World) (hm : consN l ≤ 1048576) (hs : Sl w (Lt w.heap.size) 3 A c (l.map GData.toD)) :
 Calls Tryz.prog 46 #[.slice A l.length c, .string s] w fun e w' => e = .returned (.int .i64 (tagI (tagOf s l 0))) ∧ Below w.heap.size w w' := by
 have hlen : l.length ≤ 9223372036854775807 := by simpa using hs.len
 have S0 := LH hs
 clear hs
 go_enter Tryz.func46, Tryz.ntmps46
 go_wp2_with fail
 go_loopw [5, 12] (fun n i wr => ∃ (j m : Nat), j ≤ l.length ∧ i = .int .i64 j ∧ n = .int .i64 m ∧ Hid (tagOf s l 0 = tagOf s (l.drop j) m) ∧ m + consN (l.drop j) ≤ 1048576 ∧ Below w.heap.size w wr) (fun _ i _ => l.length - (intOf i).toNat)
 case atStart => exact ⟨0, 0, by omega, by go_num, by go_num, LH rfl, by simpa using hm, Below.refl _ _⟩
 case round =>
  obtain ⟨j, m, hj, rfl, rfl, HT, hbd, hbl⟩ := hrel
  have hsz := hbl.size
  by_cases hlt : j < l.length
  ·
   obtain ⟨b, off, A1, c1, rfl, hSb, g0, g1, g2, hat⟩ := GData.elem (S0.out.below hbl (Nat.le_refl _)) j hlt
   have S1 := LH hat.2.2
   have hcl : (l[j]).cons.length ≤ 9223372036854775807 := by simpa using hat.2.2.len
   have hcd := consN_drop hlt
   have hbd1 : m + (l[j]).cons.length ≤ 1048576 := by omega
   have hbd2 : (m + (l[j]).cons.length) + consN (l.drop (j + 1)) ≤ 1048576 := by omega
   clear hcd hat
   go_wp2_with fail
   go_loopw [5, 19] (fun n i wr2 => ∃ (k : Nat), k ≤ (l[j]).cons.length ∧ i = .int .i64 k ∧ n = .int .i64 ((m + k : Nat) : Int) ∧ Hid (tagIn s (l[j]).cons m = tagIn s ((l[j]).cons.drop k) (m + k)) ∧ Hid (Sl wr2 (Lt w.heap.size) 2 A1 c1 ((l[j]).cons.map GCon.toD)) ∧ Below w.heap.size w wr2) (fun _ i _ => (l[j]).cons.length - (intOf i).toNat)
   case atStart => exact ⟨0, by omega, by go_num, by go_num, LH rfl, LH (S1.out.below ((Below.refl _ _).alloc hsz _) (Nat.le_refl _)), hbl.alloc hsz _⟩
   case round =>
    obtain ⟨k, hk, rfl, rfl, HI, S2, hbk⟩ := hrel
    have hsz2 := hbk.size
    by_cases hkt : k < (l[j]).cons.length
    ·
     obtain ⟨b2, off2, A2, c2, rfl, hSb2, p0, p1, hat2⟩ := GCon.elem S2.out k hkt
     by_cases he : ((l[j]).cons[k]).name = s
     · have HV := LH (show tagOf s l 0 = some (m + k) from HT.out.trans (tagOf_hit hlt (HI.out.trans (tagIn_hit hkt he))))
       have hbe : (((l[j]).cons[k]).name.toList == s.toList) = true := by rw [he]; simp
       clear he
       go_wp2_with fail
       go_ret
       exact ⟨ret_int (by rw [HV.out]; rfl), hbk.alloc hsz2 _⟩
     · have HI2 := LH (HI.out.trans (tagIn_miss hkt he))
       have hbe : (((l[j]).cons[k]).name.toList == s.toList) = false := name_ne he
       clear he
       go_wp2_with fail
       go_roundw
       case rel => exact ⟨k + 1, by omega, by go_num, by go_num, HI2, LH (S2.out.below ((Below.refl _ _).alloc hsz2 _) (Nat.le_refl _)), hbk.alloc hsz2 _⟩
       case measure => simp [intOf]; omega
    · have hkl : k = (l[j]).cons.length := by omega
      have HO := LH (tagOf_miss (s := s) (n := m) hlt (HI.out.trans (by rw [hkl, List.drop_length]; rfl)))
      have Hk := LH hkl
      clear hkl
      go_wp2_with fail
      go_roundw
      case rel => exact ⟨j + 1, m + k, by omega, by go_num, by go_num, LH (by rw [Hk.out]; exact HT.out.trans HO.out), by rw [Hk.out]; exact hbd2, hbk⟩
      case measure => simp [intOf]; omega
  · have hjl : j = l.length := by omega
    have Hj := LH hjl
    clear hjl
    go_wp2_with fail
    go_ret
    exact ⟨ret_int (by rw [HT.out, Hj.out, List.drop_length]; rfl), hbl⟩
set_option maxHeartbeats 400000
theorem indexFuncCon (K : Nat) (hK : ∀ (args : Array Value) (w : World), (callFunc K args).run Tryz.prog w = .ok (.enter K args) w) (caps : Array Value) (p : GCon → Bool) (l : List GCon) (A : Option Addr) (c : Nat) (w : World) (hs : Sl w (Lt w.heap.size) 2 A c (l.map GCon.toD))
 (H : ∀ x, x ∈ l → ∀ (A1 : Option Addr) (c1 : Nat) (w2 : World), Below w.heap.size w w2 → GCon.At w2 (Lt w2.heap.size) A1 c1 x →
   Calls Tryz.prog K (#[.agg #[.string x.name, .slice A1 x.args.length c1]] ++ caps) w2 fun e w' => e = .returned (.bool (p x)) ∧ Below w2.heap.size w2 w') :
 Calls Tryz.prog 57 #[.slice A l.length c, .func (.func K) #[] caps] w fun e w' => e = .returned (.int .i64 (idxI p l)) ∧ Below w.heap.size w w' := by
 have hlen : l.length ≤ 9223372036854775807 := by simpa using hs.len
 have HH := LH H
 clear H
 go_enter Tryz.func57, Tryz.ntmps57
 go_wp2_with fail
 go_loopw [8] (fun i wr => ∃ j : Nat, j ≤ l.length ∧ i = .int .i64 j ∧ noneTo p l j ∧ Below w.heap.size w wr) (fun i _ => l.length - (intOf i).toNat)
 case atStart => exact ⟨0, by omega, by go_num, noneTo_zero p l, Below.refl _ _⟩
 case round =>
  obtain ⟨j, hj, rfl, hno, hbl⟩ := hrel
  have Hno := LH hno
  clear hno
  have hsz := hbl.size
  by_cases hlt : j < l.length
  ·
   have htr := GCon.elem (hs.below hbl (Nat.le_refl _)) j hlt
   obtain ⟨b, off, A1, c1, rfl, hSb, g0, g1, hat⟩ := htr
   have hmem : l[j] ∈ l := List.getElem_mem hlt
   go_wp2_with fail
   refine (HH.out _ hmem _ _ _ hbl (hat.below (Below.refl _ _) hsz)).mono ?_
   rintro e w1 ⟨rfl, hb1⟩
   cases he : p l[j]
   · have hn := LH (noneTo_succ Hno.out hlt he)
     go_wp2_with fail
     go_roundw
     case rel => exact ⟨j + 1, by omega, by go_num, hn.out, hbl.trans (hb1.mono hsz)⟩
     case measure => simp [intOf]; omega
   · have hn := LH (idxI_at Hno.out hlt he)
     go_wp2_with fail
     go_ret
     exact ⟨ret_int hn.out.symm, hbl.trans (hb1.mono hsz)⟩
  ·
   have hjl : j = l.length := by omega
   have Hj := LH hjl
   clear hjl
   go_wp2_with fail
   go_ret
   exact ⟨ret_int (idxI_none (by have := Hno.out; rw [Hj.out] at this; exact this)).symm, hbl⟩
set_option maxHeartbeats 1000000
theorem ret_ii {a b c d : Int} (h : a = b) (h2 : c = d) : Ending.returned (.tuple #[.int .i64 a, .int .i64 c]) = .returned (.tuple #[.int .i64 b, .int .i64 d]) := by rw [h, h2]
def conOf (s : ByteArray) : List GData → Nat → Option (Nat × Nat)
 | [], _ => none
 | d :: r, j => match tagIn s d.cons 0 with
  | some k => some (j, k)
  | none => conOf s r (j + 1)
def conI : Option (Nat × Nat) → Int × Int
 | some (j, k) => (j, k)
 | none => (-1, -1)
theorem conOf_hit {s : ByteArray} {l : List GData} {j n m : Nat} (h : j < l.length) (e : tagIn s l[j].cons 0 = some m) : conOf s (l.drop j) n = some (n, m) := by
 rw [List.drop_eq_getElem_cons h, conOf, e]
theorem conOf_miss {s : ByteArray} {l : List GData} {j n : Nat} (h : j < l.length) (e : tagIn s l[j].cons 0 = none) : conOf s (l.drop j) n = conOf s (l.drop (j + 1)) (n + 1) := by
 rw [List.drop_eq_getElem_cons h, conOf, e]
theorem specConOf (l : List GData) (A : Option Addr) (c : Nat) (s : ByteArray) (w : World) (hs : Sl w (Lt w.heap.size) 3 A c (l.map GData.toD)) :
 Calls Tryz.prog 39 #[.slice A l.length c, .string s] w fun e w' => e = .returned (.tuple #[.int .i64 (conI (conOf s l 0)).1, .int .i64 (conI (conOf s l 0)).2]) ∧ Below w.heap.size w w' := by
 have hlen : l.length ≤ 9223372036854775807 := by simpa using hs.len
 have S0 := LH hs
 clear hs
 go_enter Tryz.func39, Tryz.ntmps39
 go_wp2_with fail
 go_loopw [6] (fun i wr => ∃ (j : Nat), j ≤ l.length ∧ i = .int .i64 j ∧ Hid (conOf s l 0 = conOf s (l.drop j) j) ∧ Below w.heap.size w wr) (fun i _ => l.length - (intOf i).toNat)
 case atStart => exact ⟨0, by omega, by go_num, LH rfl, Below.refl _ _⟩
 case round =>
  obtain ⟨j, hj, rfl, HT, hbl⟩ := hrel
  have hsz := hbl.size
  by_cases hlt : j < l.length
  ·
   obtain ⟨b, off, A1, c1, rfl, hSb, g0, g1, g2, hat⟩ := GData.elem (S0.out.below hbl (Nat.le_refl _)) j hlt
   have hcl : (l[j]).cons.length ≤ 9223372036854775807 := by simpa using hat.2.2.len
   clear hat
   go_wp2_with fail
   go_loopw [7] (fun i wr2 => ∃ (k : Nat), k ≤ (l[j]).cons.length ∧ i = .int .i64 k ∧ Hid (tagIn s (l[j]).cons 0 = tagIn s ((l[j]).cons.drop k) k) ∧ Below w.heap.size w wr2) (fun i _ => (l[j]).cons.length - (intOf i).toNat)
   case atStart => exact ⟨0, by omega, by go_num, LH rfl, hbl⟩
   case round =>
    obtain ⟨k, hk, rfl, HI, hbk⟩ := hrel
    obtain ⟨b', off', A1', c1', eA, hSb', q0, q1, q2, hat'⟩ := GData.elem (S0.out.below hbk (Nat.le_refl _)) j hlt
    obtain ⟨rfl, rfl⟩ : b = b' ∧ off = off' := by simpa using eA
    by_cases hkt : k < (l[j]).cons.length
    ·
     obtain ⟨b2, off2, A2, c2, rfl, hSb2, p0, p1, hat2⟩ := GCon.elem hat'.2.2 k hkt
     by_cases he : ((l[j]).cons[k]).name = s
     · have HV := LH (show conOf s l 0 = some (j, k) from HT.out.trans (conOf_hit hlt (HI.out.trans (tagIn_hit hkt he))))
       have hbe : (((l[j]).cons[k]).name.toList == s.toList) = true := by rw [he]; simp
       clear he
       go_wp2_with fail
       go_ret2
       exact ⟨ret_ii (by rw [HV.out]; rfl) (by rw [HV.out]; rfl), hbk⟩
     · have HI2 := LH (HI.out.trans (tagIn_miss hkt he))
       have hbe : (((l[j]).cons[k]).name.toList == s.toList) = false := name_ne he
       clear he
       go_wp2_with fail
       go_roundw
       case rel => exact ⟨k + 1, by omega, by go_num, HI2, hbk⟩
       case measure => simp [intOf]; omega
    · have hkl : k = (l[j]).cons.length := by omega
      have HO := LH (conOf_miss (s := s) (n := j) hlt (HI.out.trans (by rw [hkl, List.drop_length]; rfl)))
      go_wp2_with fail
      go_roundw
      case rel => exact ⟨j + 1, by omega, by go_num, LH (HT.out.trans HO.out), hbk⟩
      case measure => simp [intOf]; omega
  ·
   have hjl : j = l.length := by omega
   have Hj := LH hjl
   clear hjl
   go_wp2_with fail
   go_ret2
   exact ⟨ret_ii (by rw [HT.out, Hj.out, List.drop_length]; rfl) (by rw [HT.out, Hj.out, List.drop_length]; rfl), hbl⟩
theorem idxI_tagIn (s : ByteArray) (l : List GCon) (n : Nat) : (match tagIn s l n with | some k => idxI (fun x : GCon => x.name.toList == s.toList) l = (k : Int) - n ∧ n ≤ k | none => idxI (fun x : GCon => x.name.toList == s.toList) l = -1) := by
 induction l generalizing n with
 | nil => simp [tagIn, idxI]
 | cons x r ih =>
  by_cases h : x.name = s
  · have e : (x.name.toList == s.toList) = true := by rw [h]; simp
    simp [tagIn, idxI, h]
  ·
   have e := name_ne h
   have := ih (n + 1)
   simp only [tagIn, idxI, if_neg h, e]
   cases hc : tagIn s r (n + 1) <;> rw [hc] at this <;> simp only at this ⊢
   · rw [this]; rfl
   · rw [if_neg (by simp), if_neg (by omega)]; omega
theorem implConOf1 (s : ByteArray) (b : Nat) (x : GCon) (A1 : Option Addr) (c1 : Nat) (w : World) (hc : w.cell? ⟨b, 0, none⟩ = some (.string s)) (hb : b < w.heap.size) :
 Calls Tryz.prog 58 #[.agg #[.string x.name, .slice A1 x.args.length c1], .pointer (some ⟨b, 0, none⟩)] w fun e w' => e = .returned (.bool (x.name.toList == s.toList)) ∧ Below w.heap.size w w' := by
 have E : Below w.heap.size w (w.alloc (.cells #[.string x.name, .slice A1 x.args.length c1] 89)) := (Below.refl _ _).alloc (Nat.le_refl _) _
 have hc2 := (E.cell (p := ⟨b, 0, none⟩) hb).trans hc
 go_enter Tryz.func58, Tryz.ntmps58
 go_wp2_with fail
 go_ret
 exact ⟨rfl, E⟩
theorem implConOf (l : List GData) (A : Option Addr) (c : Nat) (s : ByteArray) (w : World) (hs : Sl w (Lt w.heap.size) 3 A c (l.map GData.toD)) :
 Calls Tryz.prog 30 #[.slice A l.length c, .string s] w fun e w' => e = .returned (.tuple #[.int .i64 (conI (conOf s l 0)).1, .int .i64 (conI (conOf s l 0)).2]) ∧ Below w.heap.size w w' := by
 have hlen : l.length ≤ 9223372036854775807 := by simpa using hs.len
 have S0 := LH hs
 clear hs
 have E0 := LH (show Below w.heap.size w (w.alloc (.cells #[.string s] 9)) from (Below.refl _ _).alloc (Nat.le_refl _) _)
 have R0 := LH (Row.new w 9 #[.string s])
 go_enter Tryz.func30, Tryz.ntmps30
 go_wp2_with fail
 go_loopw [11] (fun i wr => ∃ (j : Nat), j ≤ l.length ∧ i = .int .i64 j ∧ Hid (conOf s l 0 = conOf s (l.drop j) j) ∧ Hid (Row wr w.heap.size 9 #[.string s]) ∧ Below w.heap.size w wr) (fun i _ => l.length - (intOf i).toNat)
 case atStart => exact ⟨0, by omega, by go_num, LH rfl, R0, E0.out⟩
 case round =>
  obtain ⟨j, hj, rfl, HT, HR, hbl⟩ := hrel
  have hsz := hbl.size
  by_cases hlt : j < l.length
  ·
   obtain ⟨b, off, A1, c1, rfl, hSb, g0, g1, g2, hat⟩ := GData.elem (S0.out.below hbl (Nat.le_refl _)) j hlt
   have S1 := LH hat.2.2
   have hcl : (l[j]).cons.length ≤ 9223372036854775807 := by simpa using hat.2.2.len
   clear hat
   have HX := LH (idxI_tagIn s (l[j]).cons 0)
   go_wp2_with fail
   refine (indexFuncCon 58 (enters Tryz.func58 (by kernel_rfl) (by kernel_rfl)) #[.pointer (some ⟨w.heap.size, 0, none⟩)] (fun x => x.name.toList == s.toList) (l[j]).cons A1 c1 _ (S1.out.keep (fun k hk => ⟨Nat.lt_of_lt_of_le (Nat.lt_of_lt_of_le hk hsz) (by simp), Below.heap_alloc _ _ _ (Nat.lt_of_lt_of_le hk hsz)⟩))
     (fun x hx A2 c2 w2 hb2 hat2 => by
       have R2 := (HR.out.alloc _).below hb2 (HR.out.alloc _).lt
       exact implConOf1 s w.heap.size x A2 c2 w2 (R2.cell 0) R2.lt)).mono ?_
   rintro e w2 ⟨rfl, hb2⟩
   have B2 := LH ((hbl.alloc hsz _).trans (hb2.mono (hbl.alloc hsz _).size))
   have R3 := LH ((HR.out.alloc _).below hb2 (HR.out.alloc _).lt)
   clear hb2
   have hx := HX.out
   cases hct : tagIn s (l[j]).cons 0 with
   | some k =>
    rw [hct] at hx
    obtain ⟨hx1, _⟩ := hx
    have hx2 : idxI (fun x : GCon => x.name.toList == s.toList) (l[j]).cons = (k : Int) := by simpa using hx1
    have HV := LH (HT.out.trans (conOf_hit (n := j) hlt hct))
    rw [hx2]
    clear hx1 hx2 hct
    go_wp2_with fail
    go_ret2
    exact ⟨ret_ii (by rw [HV.out]; rfl) (by rw [HV.out]; rfl), B2.out⟩
   | none =>
    rw [hct] at hx
    have hx2 : idxI (fun x : GCon => x.name.toList == s.toList) (l[j]).cons = -1 := hx
    have HV := LH (HT.out.trans (conOf_miss (n := j) hlt hct))
    rw [hx2]
    clear hx hx2 hct
    go_wp2_with fail
    go_roundw
    case rel => exact ⟨j + 1, by omega, by go_num, HV, R3, B2.out⟩
    case measure => simp [intOf]; omega
  ·
   have hjl : j = l.length := by omega
   have Hj := LH hjl
   clear hjl
   go_wp2_with fail
   go_ret2
   exact ⟨ret_ii (by rw [HT.out, Hj.out, List.drop_length]; rfl) (by rw [HT.out, Hj.out, List.drop_length]; rfl), hbl⟩
end Go.Proofs.YtjjikciggbnjmaaGreat
namespace Go.Proofs.YtjjikciggbnjmaaGreat
set_option maxRecDepth 20000
set_option linter.unusedVariables false
set_option linter.unusedSimpArgs false
open Go.RowKit
end Go.Proofs.YtjjikciggbnjmaaGreat
namespace Go.Proofs.YtjjikciggbnjmaaGreat
set_option maxRecDepth 20000
set_option linter.unusedVariables false
set_option linter.unusedSimpArgs false
open Go.RowKit
set_option maxHeartbeats 1000000
theorem wfNat (n : Nat) (h : n ≤ 9223372036854775807) : (Lit.int .i64 (n : Int)).wf = true := by
 simp [Lit.wf, IntKind.min, IntKind.max, IntKind.signed, IntKind.bits]; omega
theorem int_wf {n : Int} (h : (Lit.int .i64 n).wf = true) : -9223372036854775808 ≤ n ∧ n ≤ 9223372036854775807 := by
 simpa [Lit.wf, IntKind.min, IntKind.max, IntKind.signed, IntKind.bits] using h
theorem int_elem {w : World} {S : Nat → Prop} {A : Option Addr} {c : Nat} {l : List Int} (h : Sl w S 1 A c (l.map (D.num .i64))) (i : Nat) (hi : i < l.length) :
 ∃ b off, A = some ⟨b, off, none⟩ ∧ S b ∧ w.cell? ⟨b, off + i, none⟩ = some (.int .i64 l[i]) ∧ (Lit.int .i64 l[i]).wf = true := by
 obtain ⟨b, off, cs, e, hb, hl, hc, hr⟩ := Sl.get h i (by simpa using hi)
 rw [List.getElem_map, D.rd_num] at hr
 obtain ⟨rfl, hw⟩ := hr
 exact ⟨b, off, e, hb, by simpa using hc 0 _ rfl, hw⟩
theorem wf_i64 {n : Int} (h1 : -9223372036854775808 ≤ n) (h2 : n ≤ 9223372036854775807) : (Lit.int .i64 n).wf = true := by
 simp [Lit.wf, IntKind.min, IntKind.max, IntKind.signed, IntKind.bits]; omega
set_option maxHeartbeats 2000000
set_option maxHeartbeats 1000000
def anyN : GNode := .mk 17 0 ByteArray.empty ByteArray.empty []
def isAnyB (p : GNode) : Bool := p.op != 20 && p.op != 19
def hd (r : List GNode) : GNode := r.headD anyN
def patOf (a : GNode) : GNode := hd a.kids
def rowD (r : List GNode) : D := .sl 5 (r.map GNode.toD)
theorem rowD_elem {w : World} {S : Nat → Prop} {A : Option Addr} {c : Nat} {rows : List (List GNode)} (h : Sl w S 1 A c (rows.map rowD)) (i : Nat) (hi : i < rows.length) :
 ∃ b off A1 c1, A = some ⟨b, off, none⟩ ∧ S b ∧ w.cell? ⟨b, off + i, none⟩ = some (.slice A1 rows[i].length c1) ∧ Sl w S 5 A1 c1 (rows[i].map GNode.toD) := by
 obtain ⟨b, off, cs, e, hb, hl, hc, hr⟩ := Sl.get h i (by simpa using hi)
 rw [List.getElem_map] at hr
 obtain ⟨A1, c1, rfl, h1⟩ := D.rd_sl.1 hr
 have := hc 0 _ rfl
 simp only [Nat.mul_one, Nat.add_zero, List.length_map] at this
 exact ⟨b, off, A1, c1, e, hb, this, h1⟩
theorem slOne {w : World} {S : Nat → Prop} {g size : Nat} {T : TypeId} {cs : List Value} {d : D} (hr : Row w g T cs.toArray) (hd : d.rd w S cs) (hl : cs.length = size) (hg : S g) : Sl w S size (some ⟨g, 0, none⟩) 1 [d] := by
 refine ⟨by simp, by unfold maxLen; omega, .inr ⟨g, 0, rfl, hg, ?_⟩⟩
 refine rdC_row [d] cs 0 (fun j v hj => ?_) ?_
 · rw [Nat.zero_add, hr.cell]; simpa using hj
 · simp only [rdC]; exact ⟨cs, [], by simp, hl, hd, rfl⟩
theorem slOneRow {w : World} {S : Nat → Prop} {g : Nat} {T : TypeId} {A : Option Addr} {c : Nat} {r : List GNode} (hr : Row w g T #[.slice A r.length c]) (hs : Sl w S 5 A c (r.map GNode.toD)) (hg : S g) : Sl w S 1 (some ⟨g, 0, none⟩) 1 ([r].map rowD) :=
 slOne (cs := [.slice A r.length c]) hr (by unfold rowD; rw [D.rd_sl]; exact ⟨A, c, by simp, hs⟩) rfl hg
theorem anyN_rd (w : World) (S : Nat → Prop) (c : Nat) (hc : c ≤ maxLen) (A : Option Addr) : anyN.toD.rd w S [.int .i64 17, .int .i64 0, .string ByteArray.empty, .string ByteArray.empty, .slice A 0 c] :=
 GNode.rd_mk (t := anyN) ⟨by decide, by decide, by decide, by decide, Sl.nil hc⟩
def Lx (X : Nat → Prop) (w : World) : Nat → Prop := fun b => b < w.heap.size ∧ X b
def bareA (asks : List GAsk) : List GAsk := asks.filter fun a => !isAnyB a.pat
def findA (asks : List GAsk) (path : List Int) : Int := idxI (fun a : GAsk => a.path == path) asks
def sameP (a b : GNode) : Bool := a.op == b.op && (a.s.toList == b.s.toList && a.n == b.n)
def kidsA (path : List Int) : Nat → List GNode → List GAsk
 | _, [] => []
 | i, k :: r => ⟨path ++ [(i : Int)], k⟩ :: kidsA path (i + 1) r
def yes1 (ask : GAsk) (r : GTrow) : Option GTrow :=
 if findA r.asks ask.path < 0 then some r
 else match r.asks[(findA r.asks ask.path).toNat]? with
  | some a => if sameP a.pat ask.pat = true then some ⟨r.alt, r.asks.take (findA r.asks ask.path).toNat ++ bareA (kidsA ask.path 0 a.pat.kids) ++ r.asks.drop ((findA r.asks ask.path).toNat + 1)⟩ else none
  | none => none
def yesR (ask : GAsk) (rows : List GTrow) : List GTrow := rows.filterMap (yes1 ask)
def no1 (ask : GAsk) (r : GTrow) : Bool :=
 if findA r.asks ask.path < 0 then true
 else match r.asks[(findA r.asks ask.path).toNat]? with
  | some a => !sameP a.pat ask.pat
  | none => true
def noR (ask : GAsk) (rows : List GTrow) : List GTrow := rows.filter (no1 ask)
def zeroT : GTree := .mk 0 0 [] ⟨#[]⟩ []
def askT (a : GAsk) (kids : List GTree) : GTree := if a.pat.op = 20 then .mk 3 0 a.path a.pat.s kids else .mk 4 a.pat.n a.path ⟨#[]⟩ kids
def growB (g : Nat → List GTrow → GTree × Nat) (many : Nat) (rows : List GTrow) : GTree × Nat :=
 if 300 < many + 1 then (zeroT, many + 1)
 else match rows with
  | [] => (.mk 2 0 [] ⟨#[]⟩ [], many + 1)
  | r :: rest => match r.asks with
   | [] => (.mk 1 r.alt [] ⟨#[]⟩ [], many + 1)
   | a :: _ => (askT a [(g (many + 1) (yesR a (r :: rest))).1, (g (g (many + 1) (yesR a (r :: rest))).2 (noR a (r :: rest))).1], (g (g (many + 1) (yesR a (r :: rest))).2 (noR a (r :: rest))).2)
def growV : Nat → Nat → List GTrow → GTree × Nat
 | 0, many, _ => (zeroT, many + 1)
 | k + 1, many, rows => growB (growV k) many rows
theorem growB_less {g : Nat → List GTrow → GTree × Nat} (hg : ∀ many rows, many < (g many rows).2) (many : Nat) (rows : List GTrow) : many < (growB g many rows).2 := by
 unfold growB
 split
 · exact Nat.lt_succ_self _
 ·
  split
  · exact Nat.lt_succ_self _
  ·
   split
   · exact Nat.lt_succ_self _
   · rename_i r rest _ a t ha
     have h1 := hg (many + 1) (yesR a (r :: rest))
     have h2 := hg (g (many + 1) (yesR a (r :: rest))).2 (noR a (r :: rest))
     show many < (g (g (many + 1) (yesR a (r :: rest))).2 (noR a (r :: rest))).2
     omega
theorem growV_less : ∀ (k many : Nat) (rows : List GTrow), many < (growV k many rows).2
 | 0, many, _ => Nat.lt_succ_self _
 | k + 1, many, rows => growB_less (growV_less k) many rows
def AnyB : Nat → Prop := fun _ => True
theorem Sl.any {w : World} {B size : Nat} {A : Option Addr} {c : Nat} {xs : List D} (h : Sl w (Lt B) size A c xs) {w' : World} (hb : Below B w w') (hB : B ≤ w'.heap.size) {v : Value} (hv : ∀ g, v.ownBlock = some g → B ≤ g) : Sl w' (fun b => b < w'.heap.size ∧ v.ownBlock ≠ some b ∧ AnyB b) size A c xs :=
 h.keep fun b hb2 => ⟨⟨Nat.lt_of_lt_of_le hb2 hB, fun e => by have := hv b e; have h3 : b < B := hb2; omega, trivial⟩, hb.block b hb2⟩
theorem own_ge {B g n c : Nat} (hg : (Value.slice (some ⟨B, 0, none⟩) n c).ownBlock = some g) : B ≤ g := by
 have e : B = g := by simpa [Value.ownBlock] using hg
 omega
def ToInts (l : List Int) (w : World) (e : Ending) (w' : World) : Prop := ∃ A1 c1, e = .returned (.slice A1 l.length c1) ∧ Sl w' (Btw w.heap.size w'.heap.size) 1 A1 c1 (l.map (D.num .i64)) ∧ Below w.heap.size w w'
theorem rdC_ints {w w' : World} {S S' : Nat → Prop} : ∀ (l : List Int) (cs : List Value), rdC w 1 S (l.map (D.num .i64)) cs → rdC w' 1 S' (l.map (D.num .i64)) cs
 | [], _, h => h
 | d :: r, cs, h => by
  simp only [List.map_cons, rdC] at h ⊢
  obtain ⟨c1, c2, e, hl, h1, h2⟩ := h
  exact ⟨c1, c2, e, hl, D.rd_num.2 (D.rd_num.1 h1), rdC_ints r c2 h2⟩
theorem Grx.slInts {X : Nat → Prop} {w : World} {B : Nat} {e : TypeId} {v : Value} {n : Nat} {l : List Int} (h : Grx X w B e 1 v n (l.map (D.num .i64))) : ∃ A c, v = .slice A n c ∧ Sl w (Btw B w.heap.size) 1 A c (l.map (D.num .i64)) := by
 have hlt := h.own
 obtain ⟨h1, cs, h2, h4⟩ := h
 rw [List.length_map] at h1
 rcases h2.2 with ⟨rfl, h⟩ | ⟨g, cap, cur, rfl, a1, a2, a3, a4, a5, a6⟩
 · have : l = [] := List.eq_nil_of_length_eq_zero (by omega)
   subst this
   exact ⟨none, 0, by rw [h], Sl.nil (by unfold maxLen; omega)⟩
 ·
  refine ⟨_, cap, rfl, by rw [List.length_map]; omega, a4, .inr ⟨g, 0, rfl, hlt g rfl, ?_⟩⟩
  refine rdC_row (l.map (D.num .i64)) cs 0 (fun j v hj => ?_) (rdC_ints l cs h4)
  rw [Nat.zero_add, Row.cell (t := e) (cs := cur) a2]
  rw [← a6, List.getElem?_take] at hj
  split at hj
  · simpa using hj
  · cases hj
theorem specDown (path : List Int) (A : Option Addr) (c : Nat) (k : Int) (w : World) (hp : path.length ≤ 1048576) (hk : (Lit.int .i64 k).wf = true) (hs : Sl w (Lt w.heap.size) 1 A c (path.map (D.num .i64))) :
 Calls Tryz.prog 70 #[.slice A path.length c, .int .i64 k] w (ToInts (path ++ [k]) w) := by
 have S0 := LH hs
 have HK := LH hk
 obtain ⟨w0, e0⟩ : ∃ w0, w0 = w.alloc (.cells #[] 3) := ⟨_, rfl⟩
 have B0 := LH (show Below w.heap.size w w0 by rw [e0]; exact (Below.refl _ _).alloc (Nat.le_refl _) _)
 have G0 := LH (show Grx AnyB w0 w.heap.size 3 1 (.slice (some ⟨w.heap.size, 0, none⟩) 0 0) 0 [] from Grx.made (by rw [e0]; exact Row.new' _ _ _ rfl) (Nat.le_refl _))
 have EQ := LH e0
 clear hs hk e0
 go_enter Tryz.func70, Tryz.ntmps70
 have S1 := LH (S0.out.any B0.out B0.out.size (v := .slice (some ⟨w.heap.size, 0, none⟩) 0 0) (fun g hg => own_ge hg))
 go_wp2_with (first
   | (at_builtin
      rw [← EQ.out]
      refine wpList_append_X (X := AnyB) w0 rfl (.tmp 6) (.tmp 7) 31 rfl 3 (.int .i64 0) 1 8 Tryz.underlying31 (by kernel_rfl) rfl (by omega) w.heap.size (.slice (some ⟨w.heap.size, 0, none⟩) 0 0) 0 _ G0.out A c path.length _ (by simp) S1.out B0.out.size (by unfold maxLen; omega) (by omega) rfl rfl ?_
      intro A4 c4 w4 G4 hGr4
      have HG := LH (show Grx AnyB w4 w.heap.size 3 1 (.slice A4 path.length c4) path.length (path.map (D.num .i64)) by simpa using G4)
      have HO := LH (fun g hg => (HG.out.own g hg))
      have B4 := LH (B0.out.trans (hGr4.below B0.out.size (fun g hg => (G0.out.own g hg).1)))
      have HE := LH (show Value.slice A4 (0 + path.length) c4 = .slice A4 path.length c4 by rw [Nat.zero_add])
      clear G4 hGr4
      rw [HE.out]
      have E5 := LH (show Below w4.heap.size w4 (w4.alloc (.cells #[.int .i64 k] 3)) from (Below.refl _ _).alloc (Nat.le_refl _) _)
      have G5 := LH (HG.out.below E5.out)
      have B5 := LH (B4.out.trans (E5.out.mono B4.out.size))
      have S5 := LH (show Sl (w4.alloc (.cells #[.int .i64 k] 3)) (fun b => b < (w4.alloc (.cells #[.int .i64 k] 3)).heap.size ∧ (Value.slice A4 path.length c4).ownBlock ≠ some b ∧ AnyB b) 1 (some ⟨w4.heap.size, 0, none⟩) 1 [D.num .i64 k] from
        slOne (T := 3) (cs := [.int .i64 k]) (Row.new' _ _ _ rfl) (D.rd_num.2 ⟨rfl, HK.out⟩) rfl ⟨by simp, fun e => by have := (HO.out _ e).2; omega, trivial⟩))
   | (at_builtin
      refine wpList_append_X (X := AnyB) (w4.alloc (.cells #[.int .i64 k] 3)) rfl (.tmp 9) (.tmp 11) 31 rfl 3 (.int .i64 0) 1 8 Tryz.underlying31 (by kernel_rfl) rfl (by omega) w.heap.size (.slice A4 path.length c4) path.length _ G5.out (some ⟨w4.heap.size, 0, none⟩) 1 1 _ rfl S5.out B5.out.size (by unfold maxLen; omega) (by omega) rfl rfl ?_
      intro A6 c6 w6 G6 hGr6
      have B6 := LH (B5.out.trans (hGr6.below B5.out.size (fun g hg => (HO.out g hg).1)))
      have HF := LH (show ToInts (path ++ [k]) w (.returned (.slice A6 (path.length + 1) c6)) w6 by
        obtain ⟨A7, c7, e7, S7⟩ := Grx.slInts (l := path ++ [k]) (by rw [List.map_append]; exact G6)
        exact ⟨A7, c7, by rw [List.length_append]; exact congrArg Ending.returned e7, S7, B6.out⟩)
      clear G6 hGr6))
 go_ret
 exact Hid.out (by assumption)
theorem specPathEq (a b : List Int) (A : Option Addr) (c : Nat) (B : Option Addr) (d : Nat) (w : World) (ha : Sl w (Lt w.heap.size) 1 A c (a.map (D.num .i64))) (hb : Sl w (Lt w.heap.size) 1 B d (b.map (D.num .i64))) :
 Calls Tryz.prog 94 #[.slice A a.length c, .slice B b.length d] w fun e w' => e = .returned (.bool (a == b)) ∧ Below w.heap.size w w' := by
 have SA := LH ha
 have SB := LH hb
 have hla : a.length ≤ 9223372036854775807 := by simpa using ha.len
 have hlb : b.length ≤ 9223372036854775807 := by simpa using hb.len
 clear ha hb
 go_enter Tryz.func94, Tryz.ntmps94
 go_wp2_with fail
 go_loopw [5] (fun i wr => ∃ (j : Nat), j ≤ a.length ∧ j ≤ b.length ∧ i = .int .i64 j ∧ Hid (∀ i, (h1 : i < a.length) → (h2 : i < b.length) → i < j → a[i] = b[i]) ∧ Below w.heap.size w wr) (fun i _ => a.length - (intOf i).toNat)
 case atStart => exact ⟨0, by omega, by omega, by go_num, LH (fun i _ _ h => by omega), Below.refl _ _⟩
 case round =>
  obtain ⟨j, hj, hj2, rfl, HE, hbl⟩ := hrel
  by_cases hlt : j < a.length
  ·
   have d1 : decide ((j : Int) < (a.length : Int)) = true := decide_eq_true (by omega)
   by_cases hlt2 : j < b.length
   ·
    have d2 : decide ((j : Int) < (b.length : Int)) = true := decide_eq_true (by omega)
    obtain ⟨b1, f1, rfl, hS1, g1, _⟩ := int_elem (SA.out.below hbl (Nat.le_refl _)) j hlt
    obtain ⟨b2, f2, rfl, hS2, g2, _⟩ := int_elem (SB.out.below hbl (Nat.le_refl _)) j hlt2
    cases he : (a[j] == b[j])
    ·
     have he2 : (a[j] != b[j]) = true := by rw [bne, he]; rfl
     have HV := LH (show (a == b) = false by
       rw [beq_eq_false_iff_ne]
       intro e
       rw [beq_eq_false_iff_ne] at he
       exact he (by simp [e]))
     go_wp2_with fail
     go_quiet (fail)
     go_wp2_with fail
     go_ret
     exact ⟨ret_bool HV.out.symm, hbl.os, hbl.tape, hbl.output, hbl.size, hbl.block⟩
    ·
     have he2 : (a[j] != b[j]) = false := by rw [bne, he]; rfl
     have HE2 := LH (fun i (h1 : i < a.length) (h2 : i < b.length) (hij : i < j + 1) => show a[i] = b[i] by
       by_cases hh : i < j
       · exact HE.out i h1 h2 hh
       · obtain rfl : i = j := by omega
         simpa using he)
     go_wp2_with fail
     go_quiet (fail)
     go_wp2_with fail
     go_roundw
     case rel => exact ⟨j + 1, by omega, by omega, by go_num, HE2, ⟨hbl.os, hbl.tape, hbl.output, hbl.size, hbl.block⟩⟩
     case measure => simp [intOf]; omega
   ·
    have d2 : decide ((j : Int) < (b.length : Int)) = false := decide_eq_false (by omega)
    have d3 : ((a.length : Int) == (b.length : Int)) = false := by rw [beq_eq_false_iff_ne]; omega
    have HV := LH (show (a == b) = false by
      rw [beq_eq_false_iff_ne]
      intro e
      rw [e] at hlt
      omega)
    go_wp2_with fail
    go_ret
    exact ⟨ret_bool HV.out.symm, hbl⟩
  ·
   have d1 : decide ((j : Int) < (a.length : Int)) = false := decide_eq_false (by omega)
   by_cases hll : a.length = b.length
   ·
    have d3 : ((a.length : Int) == (b.length : Int)) = true := by rw [beq_iff_eq]; omega
    have HV := LH (show (a == b) = true by
      rw [beq_iff_eq]
      exact List.ext_getElem hll fun i h1 h2 => HE.out i h1 h2 (by omega))
    have HL := LH hll
    clear hll
    go_wp2_with fail
    go_ret
    exact ⟨ret_bool HV.out.symm, hbl⟩
   ·
    have d3 : ((a.length : Int) == (b.length : Int)) = false := by rw [beq_eq_false_iff_ne]; omega
    have HV := LH (show (a == b) = false by
      rw [beq_eq_false_iff_ne]
      intro e
      exact hll (by rw [e]))
    go_wp2_with fail
    go_ret
    exact ⟨ret_bool HV.out.symm, hbl⟩
set_option maxHeartbeats 400000
set_option maxHeartbeats 1000000
theorem Sl.stay {X : Nat → Prop} {w w' : World} {size : Nat} {A : Option Addr} {c : Nat} {xs : List D} (h : Sl w (Lx X w) size A c xs) (hb : Below w.heap.size w w') : Sl w' (Lx X w) size A c xs := h.keep fun b hb' => ⟨hb', hb.block b hb'.1⟩
theorem ret_sl {A : Option Addr} {n m c : Nat} (h : n = m) : Ending.returned (.slice A n c) = .returned (.slice A m c) := by rw [h]
theorem flat_take {α : Type} (ls : List (List α)) {j : Nat} (h : j < ls.length) : (ls.take (j + 1)).flatten = (ls.take j).flatten ++ ls[j] := by
 rw [take_snoc' ls j h, List.flatten_append]; simp
theorem flat_le {α : Type} (ls : List (List α)) (j : Nat) : (ls.take j).flatten.length ≤ ls.flatten.length := by
 conv => rhs; rw [← List.take_append_drop j ls]
 rw [List.flatten_append, List.length_append]; omega
theorem isAny_ne {p : GNode} (h1 : (p.op == 20) = false) (h2 : (p.op == 19) = false) : isAnyB p = true := by unfold isAnyB; simp [bne, h1, h2]
theorem isAny_con {p : GNode} (h1 : (p.op == 20) = true) : isAnyB p = false := by unfold isAnyB; simp [bne, h1]
theorem isAny_num {p : GNode} (h1 : (p.op == 19) = true) : isAnyB p = false := by unfold isAnyB; simp [bne, h1]
theorem implIsAny (p : GNode) (A1 : Option Addr) (c1 : Nat) (w : World) :
 Calls Tryz.prog 35 #[.agg #[.int .i64 p.op, .int .i64 p.n, .string p.s, .string p.t, .slice A1 p.kids.length c1]] w fun e w' => e = .returned (.bool (isAnyB p)) ∧ Below w.heap.size w w' := by
 have B := LH (show Below w.heap.size w (w.alloc (.cells #[.int .i64 p.op, .int .i64 p.n, .string p.s, .string p.t, .slice A1 p.kids.length c1] 39)) from (Below.refl _ _).alloc (Nat.le_refl _) _)
 cases h20 : (p.op == 20)
 case' true =>
  have HV := LH (isAny_con h20)
  have n20 : (p.op != 20) = false := by simp [bne, h20]
 case' false =>
  have n20 : (p.op != 20) = true := by simp [bne, h20]
  cases h19 : (p.op == 19)
  case' true =>
   have HV := LH (isAny_num h19)
   have n19 : (p.op != 19) = false := by simp [bne, h19]
  case' false =>
   have HV := LH (isAny_ne h20 h19)
   have n19 : (p.op != 19) = true := by simp [bne, h19]
 all_goals
  go_enter Tryz.func35, Tryz.ntmps35
  go_wp2_with fail
  go_ret
  exact ⟨ret_bool HV.out.symm, B.out⟩
def zRow : Value := .slice none 0 0
theorem oneRow {X : Nat → Prop} {w w' : World} {A1 : Option Addr} {c1 : Nat} {r : List GNode} {T : TypeId} (v : Value) (hv : ∀ g, v.ownBlock = some g → g < w.heap.size) (hX : X w.heap.size) (e : w' = w.alloc (.cells #[.slice A1 r.length c1] T)) (hs : Sl w (fun b => b < w.heap.size ∧ v.ownBlock ≠ some b ∧ X b) 5 A1 c1 (r.map GNode.toD)) :
 Sl w' (fun b => b < w'.heap.size ∧ v.ownBlock ≠ some b ∧ X b) 1 (some ⟨w.heap.size, 0, none⟩) 1 ([r].map rowD) := by
 subst e
 have hB : Below w.heap.size w (w.alloc (.cells #[.slice A1 r.length c1] T)) := (Below.refl _ _).alloc (Nat.le_refl _) _
 exact slOneRow (Row.new w T #[.slice A1 r.length c1]) (hs.keep fun b hb => ⟨⟨Nat.lt_of_lt_of_le hb.1 hB.size, hb.2⟩, hB.block b hb.1⟩) ⟨by simp, fun h => by have := hv _ h; omega, hX⟩
theorem Grx.keepX {X : Nat → Prop} {w w' : World} {B : Nat} {e : TypeId} {size : Nat} {v : Value} {n : Nat} {xs : List D} (h : Grx X w B e size v n xs) (hs : w.heap.size ≤ w'.heap.size) (hk : ∀ b, b < w.heap.size → X b ∨ B ≤ b → w'.heap[b]? = w.heap[b]?) : Grx X w' B e size v n xs := by
 have ho := h.own
 obtain ⟨h1, cs, h2, h4⟩ := h
 refine ⟨h1, cs, ⟨h2.1, ?_⟩, rdC_keep (fun b hb => ⟨⟨Nat.lt_of_lt_of_le hb.1 hs, hb.2⟩, hk b hb.1 (.inl hb.2.2)⟩) xs cs h4⟩
 rcases h2.2 with h | ⟨g, cap, cur, rfl, a1, a2, a3⟩
 · exact .inl h
 · exact .inr ⟨g, cap, cur, rfl, a1, (hk g (ho g rfl).2 (.inr a1)).trans a2, a3⟩
theorem Grx.slX {X : Nat → Prop} {w : World} {B : Nat} {e : TypeId} {size : Nat} {v : Value} {n : Nat} {xs : List D} (h : Grx X w B e size v n xs) : ∃ A c, v = .slice A n c ∧ Sl w (Lt w.heap.size) size A c xs := by
 have hlt := h.own
 obtain ⟨h1, cs, h2, h4⟩ := h
 rcases h2.2 with ⟨rfl, h⟩ | ⟨g, cap, cur, rfl, a1, a2, a3, a4, a5, a6⟩
 · have : xs = [] := List.eq_nil_of_length_eq_zero (by omega)
   subst this
   exact ⟨none, 0, by rw [h], Sl.nil (by unfold maxLen; omega)⟩
 ·
  refine ⟨_, cap, rfl, by omega, a4, .inr ⟨g, 0, rfl, (hlt g rfl).2, ?_⟩⟩
  refine rdC_row xs cs 0 (fun j v hj => ?_) (rdC_keep (fun b hb => ⟨hb.1, rfl⟩) xs cs h4)
  rw [Nat.zero_add, Row.cell (t := e) (cs := cur) a2]
  rw [← a6, List.getElem?_take] at hj
  split at hj
  · simpa using hj
  · cases hj
theorem Grx.slY {X Y : Nat → Prop} {w : World} {B : Nat} {e : TypeId} {size : Nat} {v : Value} {n : Nat} {xs : List D} (h : Grx X w B e size v n xs) (hX : ∀ b, X b → Y b) (hB : ∀ b, B ≤ b → Y b) : ∃ A c, v = .slice A n c ∧ Sl w (fun b => Y b ∧ b < w.heap.size) size A c xs := by
 have hlt := h.own
 obtain ⟨h1, cs, h2, h4⟩ := h
 rcases h2.2 with ⟨rfl, h⟩ | ⟨g, cap, cur, rfl, a1, a2, a3, a4, a5, a6⟩
 · have : xs = [] := List.eq_nil_of_length_eq_zero (by omega)
   subst this
   exact ⟨none, 0, by rw [h], Sl.nil (by unfold maxLen; omega)⟩
 ·
  refine ⟨_, cap, rfl, by omega, a4, .inr ⟨g, 0, rfl, ⟨hB _ (hlt g rfl).1, (hlt g rfl).2⟩, ?_⟩⟩
  refine rdC_row xs cs 0 (fun j v hj => ?_) (rdC_keep (fun b hb => ⟨⟨hX _ hb.2.2, hb.1⟩, rfl⟩) xs cs h4)
  rw [Nat.zero_add, Row.cell (t := e) (cs := cur) a2]
  rw [← a6, List.getElem?_take] at hj
  split at hj
  · simpa using hj
  · cases hj
def ToRowS (S : Nat → Prop) (r : GTrow) (w : World) (e : Ending) (w' : World) : Prop := ∃ A1 c1, e = .returned (.agg #[.int .i64 r.alt, .slice A1 r.asks.length c1]) ∧ Sl w' (fun b => (S b ∨ w.heap.size ≤ b) ∧ b < w'.heap.size) 6 A1 c1 (r.asks.map GAsk.toD) ∧ Below w.heap.size w w'
theorem bareA_take {asks : List GAsk} {j : Nat} (h : j < asks.length) : bareA (asks.take (j + 1)) = bareA (asks.take j) ++ (if isAnyB asks[j].pat = true then [] else [asks[j]]) := by
 unfold bareA; rw [take_snoc' asks j h, List.filter_append]; cases hr : isAnyB asks[j].pat <;> simp [hr]
def Xq (S : Nat → Prop) (B : Nat) : Nat → Prop := fun b => S b ∨ B + 3 ≤ b
def zAsk : Value := .agg #[.slice none 0 0, .int .i64 0, .int .i64 0, .string ⟨#[]⟩, .string ⟨#[]⟩, .slice none 0 0]
theorem oneAsk {X : Nat → Prop} {w w' : World} {A1 : Option Addr} {c1 : Nat} {A2 : Option Addr} {c2 : Nat} {r : GAsk} {T : TypeId} (v : Value) (hv : ∀ g, v.ownBlock = some g → g < w.heap.size) (hX : X w.heap.size) (hr : Row w' w.heap.size T #[.slice A1 r.path.length c1, .int .i64 r.pat.op, .int .i64 r.pat.n, .string r.pat.s, .string r.pat.t, .slice A2 r.pat.kids.length c2]) (hB : Below w.heap.size w w') (hs : GAsk.At w (fun b => b < w.heap.size ∧ v.ownBlock ≠ some b ∧ X b) A1 c1 A2 c2 r) :
 Sl w' (fun b => b < w'.heap.size ∧ v.ownBlock ≠ some b ∧ X b) 6 (some ⟨w.heap.size, 0, none⟩) 1 [r.toD] :=
 slOne (T := T) (cs := [.slice A1 r.path.length c1, .int .i64 r.pat.op, .int .i64 r.pat.n, .string r.pat.s, .string r.pat.t, .slice A2 r.pat.kids.length c2]) hr (GAsk.rd_mk (hs.keep fun b hb => ⟨⟨Nat.lt_of_lt_of_le hb.1 hB.size, hb.2⟩, hB.block b hb.1⟩)) rfl ⟨hr.lt, fun h => by have := hv _ h; omega, hX⟩
theorem specBareS (S : Nat → Prop) (r : GTrow) (A : Option Addr) (c : Nat) (w : World) (hl : r.asks.length ≤ 1048576) (hS : ∀ b, S b → b < w.heap.size) (hs : Sl w S 6 A c (r.asks.map GAsk.toD)) :
 Calls Tryz.prog 22 #[.agg #[.int .i64 r.alt, .slice A r.asks.length c]] w (ToRowS S ⟨r.alt, bareA r.asks⟩ w) := by
 have HS := LH hs
 have HSL := LH hS
 have HX3 := LH (fun q (hq : Xq S w.heap.size q ∨ w.heap.size + 3 ≤ q) => show q < w.heap.size ∨ w.heap.size + 3 ≤ q from by
   rcases hq with (h | h) | h
   · exact .inl (hS q h)
   · exact .inr h
   · exact .inr h)
 clear hs hS
 obtain ⟨w0, e0⟩ : ∃ w0, w0 = ((w.alloc (.cells #[.int .i64 r.alt, .slice A r.asks.length c] 66)).alloc (.cells #[.int .i64 0, .slice none 0 0] 66)).alloc (.cells #[.int .i64 r.alt, .slice none 0 0] 66) := ⟨_, rfl⟩
 have HB0 := LH (show Below w.heap.size w w0 by rw [e0]; exact (((Below.refl _ _).alloc (Nat.le_refl _) _).alloc (by simp) _).alloc (by simp; omega) _)
 have hs0 : w.heap.size + 3 ≤ w0.heap.size := by rw [e0]; simp
 have HRa0 := LH (show Row w0 w.heap.size 66 #[.int .i64 r.alt, .slice A r.asks.length c] by rw [e0]; exact ((Row.new' _ _ _ rfl).alloc _).alloc _)
 have HRz0 := LH (show Row w0 (w.heap.size + 1) 66 #[.int .i64 0, .slice none 0 0] by rw [e0]; exact (Row.new' _ _ _ (by simp)).alloc _)
 have HRo0 := LH (show Row w0 (w.heap.size + 1 + 1) 66 #[.int .i64 r.alt, .slice none 0 0] by rw [e0]; exact Row.new' _ _ _ (by simp))
 go_enter Tryz.func22, Tryz.ntmps22
 go_wp2_with fail
 rw [← e0]
 clear e0
 go_loopw [4] (fun i wr => ∃ (j m : Nat) (A' : Option Addr) (c' : Nat), j ≤ r.asks.length ∧ i = .int .i64 j ∧ m ≤ j ∧ Hid (Grx (Xq S w.heap.size) wr (w.heap.size + 3) 69 6 (.slice A' m c') m ((bareA (r.asks.take j)).map GAsk.toD)) ∧ Hid (Row wr w.heap.size 66 #[.int .i64 r.alt, .slice A r.asks.length c]) ∧ Hid (Row wr (w.heap.size + 1) 66 #[.int .i64 0, .slice none 0 0]) ∧ Hid (Row wr (w.heap.size + 1 + 1) 66 #[.int .i64 r.alt, .slice A' m c']) ∧ w.heap.size + 3 ≤ wr.heap.size ∧ Below w.heap.size w wr) (fun i _ => r.asks.length - (intOf i).toNat)
 case atStart => exact ⟨0, 0, none, 0, by omega, by go_num, by omega, LH (Grx.nil _ _ _ _ _), HRa0, HRz0, HRo0, hs0, HB0.out⟩
 case round =>
  clear HRa0 HRz0 HRo0 HB0 hs0
  obtain ⟨j, m, A', c', hj, rfl, hm, HG, HRa, HRz, HRo, hs3, hbl⟩ := hrel
  have hsz := hbl.size
  have hca := fun i => HRa.out.cell i
  have hco := fun i => HRo.out.cell i
  by_cases hlt : j < r.asks.length
  ·
   obtain ⟨b, off, A1, c1, A2, c2, rfl, hSb, g0, g1, g2, g3, g4, g5, hat⟩ := GAsk.elem (HS.out.keep (w' := wr) (S' := S) fun q hq => ⟨hq, hbl.block q (HSL.out q hq)⟩) j hlt
   have hSb' : b < w.heap.size := HSL.out b hSb
   have hblt : b < wr.heap.size := Nat.lt_of_lt_of_le hSb' hsz
   have d1 : decide ((j : Int) < (r.asks.length : Int)) = true := decide_eq_true (by omega)
   have HT := LH (bareA_take (asks := r.asks) (j := j) hlt)
   have HAT := LH hat
   clear hat
   cases h20 : (r.asks[j].pat.op == 20)
   case' true =>
    have HV := LH (show bareA (r.asks.take (j + 1)) = bareA (r.asks.take j) ++ [r.asks[j]] by rw [HT.out, isAny_con h20]; simp)
   case' false =>
    cases h19 : (r.asks[j].pat.op == 19)
    case' true =>
     have HV := LH (show bareA (r.asks.take (j + 1)) = bareA (r.asks.take j) ++ [r.asks[j]] by rw [HT.out, isAny_num h19]; simp)
    case' false =>
     have HV := LH (show bareA (r.asks.take (j + 1)) = bareA (r.asks.take j) by rw [HT.out, isAny_ne h20 h19]; simp)
   case false.false =>
    go_wp2_with fail
    go_roundw
    case rel => exact ⟨j + 1, m, A', c', by omega, by go_num, by omega, LH (by rw [HV.out]; exact HG.out), HRa, HRz, HRo, hs3, hbl⟩
    case measure => simp [intOf]; omega
   all_goals
    have HOW := LH (fun g (hg : (Value.slice A' m c').ownBlock = some g) => HG.out.own g hg)
    obtain ⟨w5, e5⟩ : ∃ w5, w5 = (wr.alloc (.cells #[.slice A1 r.asks[j].path.length c1, .int .i64 r.asks[j].pat.op, .int .i64 r.asks[j].pat.n, .string r.asks[j].pat.s, .string r.asks[j].pat.t, .slice A2 r.asks[j].pat.kids.length c2] 69)).drew := ⟨_, rfl⟩
    have E5 := LH (show Below wr.heap.size wr w5 by rw [e5]; exact ((Below.refl _ _).alloc (Nat.le_refl _) _).drew)
    have T5 := LH (oneAsk (X := Xq S w.heap.size) (w := wr) (Value.slice A' m c') (fun g hg => (HOW.out g hg).2) (.inr hs3) (show Row w5 wr.heap.size 69 _ by rw [e5]; exact Row.new wr _ _) E5.out (HAT.out.keep (w' := wr) fun b hb => ⟨⟨Nat.lt_of_lt_of_le (HSL.out b hb) hsz, fun e => by have := (HOW.out b e).1; have h4 := HSL.out b hb; omega, .inl hb⟩, rfl⟩))
    have G5 := LH (HG.out.below E5.out)
    have hs5 := Nat.le_trans hs3 E5.out.size
    have hla := HRa.out.lt
    have hlo := HRo.out.lt
    go_wp2_with fail
    go_region_law (first
      | (rw [← e5]
         refine step_append_X w5 rfl (.tmp 34) (.tmp 40) 64 rfl 69 zAsk 6 96 Tryz.underlying64 (by kernel_rfl) rfl (by omega) (w.heap.size + 3) (.slice A' m c') m ((bareA (r.asks.take j)).map GAsk.toD) G5.out (some ⟨wr.heap.size, 0, none⟩) 1 1 [r.asks[j].toD] rfl T5.out hs5 (by unfold maxLen; omega) (by omega) rfl rfl ?_
         intro A6 c6 w6 G6 hGr6
         have G6h := LH G6
         have B6 := LH ((E5.out.mono hsz).trans (hGr6.below (B := w.heap.size) (by omega) (fun g hg => by have := (HOW.out g hg).1; omega)))
         have Z6 := LH hGr6.size
         have Ra6 := LH (hGr6.row (HRa.out.below E5.out (by omega)) (fun e => by have := (HOW.out _ e).1; omega))
         have Rz6 := LH (hGr6.row (HRz.out.below E5.out (by omega)) (fun e => by have := (HOW.out _ e).1; omega))
         have Ro6 := LH (hGr6.row (HRo.out.below E5.out (by omega)) (fun e => by have := (HOW.out _ e).1; omega))
         have hco6 := fun i => Ro6.out.cell i
         have hfo6 := fun i => Ro6.out.frozen i
         clear G6 hGr6))
    all_goals
     go_wp2_with fail
     go_roundw
     case rel =>
      have BB := hbl.trans (B6.out)
      have hz6 := Nat.le_trans E5.out.size Z6.out
      refine ⟨j + 1, m + 1, A6, c6, by omega, by go_num, by omega, LH ?_, LH ((Ra6.out).far (p := ⟨w.heap.size + 1 + 1, 1, none⟩) (by simp <;> omega) _), LH ((Rz6.out).far (p := ⟨w.heap.size + 1 + 1, 1, none⟩) (by simp <;> omega) _), LH (Ro6.out.set 1 _), ?_, BB.setCell (p := ⟨w.heap.size + 1 + 1, 1, none⟩) (by simp <;> omega) _⟩
      · rw [HV.out, List.map_append]
        exact G6h.out.keepX (by simp [World.setCell]) (fun q hq hq2 => Below.heap_setCell _ ⟨w.heap.size + 1 + 1, 1, none⟩ _ q (by rcases HX3.out q hq2 with h | h <;> simp <;> omega))
      · simp [World.setCell]; omega
     case measure => simp [intOf]; omega
  ·
   have hjl : j = r.asks.length := by omega
   have d1 : decide ((j : Int) < (r.asks.length : Int)) = false := decide_eq_false (by omega)
   have HLE := LH (show r.asks.take j = r.asks by rw [hjl, List.take_length])
   have hl5 := HG.out.1
   rw [HLE.out, List.length_map] at hl5
   have hG := HG.out
   rw [HLE.out] at hG
   have hcz := fun i => HRz.out.cell i
   have hfz := fun i => HRz.out.frozen i
   have hG2 := hG.keepX (w' := setCells wr (w.heap.size + 1) 0 [.int .i64 r.alt, .slice A' m c']) (by rw [setCells_size]; exact Nat.le_refl _) (fun q hq hq2 => setCells_block _ _ _ _ _ (by rcases HX3.out q hq2 with h | h <;> omega))
   have BF := LH (setCells_below hbl (w.heap.size + 1) 0 (by omega) [.int .i64 r.alt, .slice A' m c'])
   have hsl := hG2.slY (Y := fun b => S b ∨ w.heap.size ≤ b) (fun b h => h.elim .inl (fun h => .inr (by omega))) (fun b h => .inr (by omega))
   have HSL := LH hsl
   clear hsl hG2 hG hjl
   go_wp2_with fail
   obtain ⟨A5, c5, e5, hs5⟩ := HSL.out
   obtain ⟨rfl, rfl⟩ : A' = A5 ∧ c' = c5 := by simpa using e5
   exact bodyPost_ret (v := .agg #[.int .i64 r.alt, .slice A' m c']) (by simp [results, Tryz.results22, go_sem, hca, hcz, hco]) rfl ⟨A', c', by rw [← hl5], hs5, BF.out⟩
theorem specFind (r : GTrow) (path : List Int) (A : Option Addr) (c : Nat) (B : Option Addr) (d : Nat) (w : World) (hl : r.asks.length ≤ 1048576) (hs : Sl w (Lt w.heap.size) 6 A c (r.asks.map GAsk.toD)) (hp : Sl w (Lt w.heap.size) 1 B d (path.map (D.num .i64))) :
 Calls Tryz.prog 68 #[.agg #[.int .i64 r.alt, .slice A r.asks.length c], .slice B path.length d] w fun e w' => e = .returned (.int .i64 (findA r.asks path)) ∧ Below w.heap.size w w' := by
 have HS := LH hs
 have HP := LH hp
 clear hs hp
 obtain ⟨w0, e0⟩ : ∃ w0, w0 = w.alloc (.cells #[.int .i64 r.alt, .slice A r.asks.length c] 66) := ⟨_, rfl⟩
 have HB0 := LH (show Below w.heap.size w w0 by rw [e0]; exact (Below.refl _ _).alloc (Nat.le_refl _) _)
 have HRa0 := LH (show Row w0 w.heap.size 66 #[.int .i64 r.alt, .slice A r.asks.length c] by rw [e0]; exact Row.new' _ _ _ rfl)
 go_enter Tryz.func68, Tryz.ntmps68
 go_wp2_with fail
 rw [← e0]
 clear e0
 go_loopw [5] (fun i wr => ∃ (j : Nat), j ≤ r.asks.length ∧ i = .int .i64 j ∧ Hid (noneTo (fun a : GAsk => a.path == path) r.asks j) ∧ Hid (Row wr w.heap.size 66 #[.int .i64 r.alt, .slice A r.asks.length c]) ∧ Below w.heap.size w wr) (fun i _ => r.asks.length - (intOf i).toNat)
 case atStart => exact ⟨0, by omega, by go_num, LH (noneTo_zero _ _), HRa0, HB0.out⟩
 case round =>
  clear HRa0 HB0
  obtain ⟨j, hj, rfl, HE, HRa, hbl⟩ := hrel
  have hsz := hbl.size
  have hca := fun i => HRa.out.cell i
  by_cases hlt : j < r.asks.length
  ·
   obtain ⟨b, off, A1, c1, A2, c2, rfl, hSb, g0, g1, g2, g3, g4, g5, hat⟩ := GAsk.elem (HS.out.below hbl (Nat.le_refl _)) j hlt
   have d1 : decide ((j : Int) < (r.asks.length : Int)) = true := decide_eq_true (by omega)
   have HC := LH (specPathEq r.asks[j].path path A1 c1 B d wr (hat.1.keep fun q hq => ⟨Nat.lt_of_lt_of_le hq hsz, rfl⟩) (HP.out.below hbl hsz))
   clear hat
   go_wp2_with fail
   refine HC.out.mono ?_
   rintro e w2 ⟨rfl, hb2⟩
   have B2 := LH (hbl.trans (hb2.mono hsz))
   have R2 := LH (HRa.out.below hb2 HRa.out.lt)
   clear hb2
   cases he : (r.asks[j].path == path)
   · have HE2 := LH (noneTo_succ HE.out hlt he)
     clear he
     go_wp2_with fail
     go_roundw
     case rel => exact ⟨j + 1, by omega, by go_num, HE2, R2, B2.out⟩
     case measure => simp [intOf]; omega
   · have HV := LH (show findA r.asks path = (j : Int) from idxI_at HE.out hlt he)
     clear he
     go_wp2_with fail
     go_ret
     exact ⟨by rw [HV.out]; rfl, B2.out⟩
  ·
   have d1 : decide ((j : Int) < (r.asks.length : Int)) = false := decide_eq_false (by omega)
   have hjl : j = r.asks.length := by omega
   have HV := LH (show findA r.asks path = -1 from idxI_none (hjl ▸ HE.out))
   clear hjl
   go_wp2_with fail
   go_ret
   exact ⟨by rw [HV.out]; rfl, hbl⟩
theorem sameP_def (p q : GNode) : sameP p q = (p.op == q.op && (p.s.toList == q.s.toList && p.n == q.n)) := rfl
theorem specAskAlike (p q : GNode) (A : Option Addr) (c : Nat) (B : Option Addr) (d : Nat) (w : World) :
 Calls Tryz.prog 69 #[.agg #[.int .i64 p.op, .int .i64 p.n, .string p.s, .string p.t, .slice A p.kids.length c], .agg #[.int .i64 q.op, .int .i64 q.n, .string q.s, .string q.t, .slice B q.kids.length d]] w fun e w' => e = .returned (.bool (sameP p q)) ∧ Below w.heap.size w w' := by
 have B := LH (show Below w.heap.size w ((w.alloc (.cells #[.int .i64 p.op, .int .i64 p.n, .string p.s, .string p.t, .slice A p.kids.length c] 39)).alloc (.cells #[.int .i64 q.op, .int .i64 q.n, .string q.s, .string q.t, .slice B q.kids.length d] 39)) from ((Below.refl _ _).alloc (Nat.le_refl _) _).alloc (by simp) _)
 cases h1 : (p.op == q.op)
 case' true => cases h2 : (p.s.toList == q.s.toList)
 case' true.true => cases h3 : (p.n == q.n)
 all_goals
  go_enter Tryz.func69, Tryz.ntmps69
  go_wp2_with fail
  go_ret
  exact ⟨ret_bool (by rw [sameP_def]; simp [*]), B.out⟩
end Go.Proofs.YtjjikciggbnjmaaGreat
