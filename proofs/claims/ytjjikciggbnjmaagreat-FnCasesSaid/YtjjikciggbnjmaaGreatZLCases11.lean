/- Texts of the claim LCases in one: TrD TreesQ Slc TrE TrF TiA TiB TiC. Conditions: none but bounds on sizes. -/
import Derived.Test.YtjjikciggbnjmaaGreatZLCases10
import Derived.Test.YtjjikciggbnjmaaGreatZLCases3
import Derived.Test.YtjjikciggbnjmaaGreatZLCases2
import Derived.Deep.CutRange
import Derived.Test.YtjjikciggbnjmaaGreatZLCases0
import Derived.Deep.RegionHeld3
import Derived.Lib.SliceRun
namespace Go.Proofs.YtjjikciggbnjmaaGreat
set_option maxRecDepth 20000
set_option linter.unusedVariables false
set_option linter.unusedSimpArgs false
open Go.RowKit
set_option maxHeartbeats 1000000
def Xs (S : Nat → Prop) (B : Nat) : Nat → Prop := fun b => S b ∨ B ≤ b
def ToTrowsS (S : Nat → Prop) (rows : List GTrow) (w : World) (e : Ending) (w' : World) : Prop := ∃ A1 c1, e = .returned (.slice A1 rows.length c1) ∧ Sl w' (fun b => Xs S w.heap.size b ∧ b < w'.heap.size) 2 A1 c1 (rows.map GTrow.toD) ∧ Below w.heap.size w w'
def zTrow : Value := .agg #[.int .i64 0, .slice none 0 0]
def askC (a : GAsk) (A1 : Option Addr) (c1 : Nat) (A2 : Option Addr) (c2 : Nat) : Array Value := #[.slice A1 a.path.length c1, .int .i64 a.pat.op, .int .i64 a.pat.n, .string a.pat.s, .string a.pat.t, .slice A2 a.pat.kids.length c2]
theorem noR_take {a : GAsk} {rows : List GTrow} {j : Nat} (h : j < rows.length) : noR a (rows.take (j + 1)) = noR a (rows.take j) ++ (if no1 a rows[j] = true then [rows[j]] else []) := by
 unfold noR; rw [take_snoc' rows j h, List.filter_append]; cases hr : no1 a rows[j] <;> simp [hr]
theorem specNo (S : Nat → Prop) (a : GAsk) (rows : List GTrow) (A : Option Addr) (c : Nat) (A1 : Option Addr) (c1 : Nat) (A2 : Option Addr) (c2 : Nat) (w : World) (hl : rows.length ≤ 1048576) (hb : ∀ r ∈ rows, r.asks.length ≤ 1048576) (hS : ∀ b, S b → b < w.heap.size) (hs : Sl w S 2 A c (rows.map GTrow.toD)) (ha : GAsk.At w (Lt w.heap.size) A1 c1 A2 c2 a) :
 Calls Tryz.prog 41 #[.slice A rows.length c, .agg (askC a A1 c1 A2 c2)] w (ToTrowsS S (noR a rows) w) := by
 unfold askC
 have HS := LH hs
 have HA := LH ha
 have HBD := LH hb
 have HSL := LH hS
 clear hs ha hb hS
 obtain ⟨w0, e0⟩ : ∃ w0, w0 = (w.alloc (.cells #[.slice A1 a.path.length c1, .int .i64 a.pat.op, .int .i64 a.pat.n, .string a.pat.s, .string a.pat.t, .slice A2 a.pat.kids.length c2] 69)).alloc (.cells #[] 66) := ⟨_, rfl⟩
 have HB0 := LH (show Below w.heap.size w w0 by rw [e0]; exact ((Below.refl _ _).alloc (Nat.le_refl _) _).alloc (by simp) _)
 have HRa0 := LH (show Row w0 w.heap.size 69 #[.slice A1 a.path.length c1, .int .i64 a.pat.op, .int .i64 a.pat.n, .string a.pat.s, .string a.pat.t, .slice A2 a.pat.kids.length c2] by rw [e0]; exact (Row.new' _ _ _ rfl).alloc _)
 have G0 := LH (show Grx (Xs S w.heap.size) w0 (w.heap.size + 1) 66 2 (.slice (some ⟨w.heap.size + 1, 0, none⟩) 0 0) 0 [] from Grx.made (by rw [e0]; exact Row.new' _ _ _ (by simp)) (Nat.le_refl _))
 have hs0 : w.heap.size + 1 ≤ w0.heap.size := by rw [e0]; simp
 go_enter Tryz.func41, Tryz.ntmps41
 go_wp2_with fail
 rw [← e0]
 clear e0
 go_loopw [5, 6] (fun v i wr => ∃ (j m : Nat) (A' : Option Addr) (c' : Nat), j ≤ rows.length ∧ i = .int .i64 j ∧ v = .slice A' m c' ∧ m ≤ j ∧ Hid (Grx (Xs S w.heap.size) wr (w.heap.size + 1) 66 2 (.slice A' m c') m ((noR a (rows.take j)).map GTrow.toD)) ∧ Hid (Row wr w.heap.size 69 #[.slice A1 a.path.length c1, .int .i64 a.pat.op, .int .i64 a.pat.n, .string a.pat.s, .string a.pat.t, .slice A2 a.pat.kids.length c2]) ∧ w.heap.size + 1 ≤ wr.heap.size ∧ Hid (Below w.heap.size w wr)) (fun _ i _ => rows.length - (intOf i).toNat)
 case atStart => exact ⟨0, 0, _, _, by omega, by go_num, rfl, by omega, G0, HRa0, hs0, HB0⟩
 case round =>
  clear HRa0 HB0 G0 hs0
  obtain ⟨j, m, A', c', hj, rfl, rfl, hm, HG, HRa, hs1, HB⟩ := hrel
  have hsz := HB.out.size
  have hca := fun i => HRa.out.cell i
  have HOW := LH (fun g (hg : (Value.slice A' m c').ownBlock = some g) => HG.out.own g hg)
  by_cases hlt : j < rows.length
  ·
   obtain ⟨b, off, B1, d1, rfl, hSb, g0, g1, hat⟩ := GTrow.elem (HS.out.keep (w' := wr) (S' := S) fun q hq => ⟨hq, HB.out.block q (HSL.out q hq)⟩) j hlt
   have hSb' : b < w.heap.size := HSL.out b hSb
   have hbl : b < wr.heap.size := Nat.lt_of_lt_of_le hSb' hsz
   have dl : decide ((j : Int) < (rows.length : Int)) = true := decide_eq_true (by omega)
   have HAT := LH hat
   obtain ⟨fi, hfi⟩ : ∃ fi, findA rows[j].asks a.path = fi := ⟨_, rfl⟩
   have hff := specFind rows[j] a.path B1 d1 A1 c1 wr.drew (HBD.out _ (List.getElem_mem hlt)) (hat.2.keep fun q hq => ⟨Nat.lt_of_lt_of_le (HSL.out q hq) hsz, rfl⟩) ((HA.out.1.below HB.out (Nat.le_refl _)).keep fun q hq => ⟨Nat.lt_of_lt_of_le hq hsz, rfl⟩)
   rw [hfi] at hff
   have HF := LH hff
   have HFI := LH hfi
   clear hff hfi
   have HT := LH (noR_take (a := a) (rows := rows) (j := j) hlt)
   clear hat
   go_wp2_with fail
   go_region_law (first
     | (go_simp
        go_at_call 68
        go_must (
          refine HF.out.mono ?_
          rintro e w2 ⟨rfl, hb2⟩
          have E2 := LH (((Below.refl wr.heap.size wr).drew).trans hb2)
          have R2 := LH (HRa.out.below E2.out HRa.out.lt)
          have hca2 := fun i => R2.out.cell i
          clear hb2)))
   all_goals
    have B2 := LH (HB.out.trans (E2.out.mono hsz))
    have hs2 := Nat.le_trans hs1 E2.out.size
    have G2 := LH (HG.out.below E2.out)
    have k0 : w2.cell? ⟨b, off + j * 2, none⟩ = some (.int .i64 rows[j].alt) := (E2.out.cell (p := ⟨b, off + j * 2, none⟩) hbl).trans g0
    have k1 : w2.cell? ⟨b, off + j * 2 + 1, none⟩ = some (.slice B1 rows[j].asks.length d1) := (E2.out.cell (p := ⟨b, off + j * 2 + 1, none⟩) hbl).trans g1
    clear g0 g1 hca
    by_cases hn : fi < 0
    ·
     have HV := LH (show noR a (rows.take (j + 1)) = noR a (rows.take j) ++ [rows[j]] by rw [HT.out]; unfold no1; rw [HFI.out]; simp [hn])
     have dn : decide (fi < 0) = true := decide_eq_true hn
     have HN := LH hn
     clear hn
     go_wp2_with fail
     go_simp
     go_big_quiet (fail)
     obtain ⟨w3, e3⟩ : ∃ w3, w3 = w2.drewN nq := ⟨_, rfl⟩
     have E3 := LH (show Below w2.heap.size w2 w3 by rw [e3]; exact ⟨rfl, rfl, rfl, Nat.le_refl _, fun _ _ => rfl⟩)
     have c0 : w3.cell? ⟨b, off + j * 2, none⟩ = some (.int .i64 rows[j].alt) := by rw [e3]; exact k0
     have c1 : w3.cell? ⟨b, off + j * 2 + 1, none⟩ = some (.slice B1 rows[j].asks.length d1) := by rw [e3]; exact k1
     rw [← e3]
     clear e3
     obtain ⟨w5, e5⟩ : ∃ w5, w5 = w3.alloc (.cells #[.int .i64 rows[j].alt, .slice B1 rows[j].asks.length d1] 66) := ⟨_, rfl⟩
     have E5 := LH (show Below w2.heap.size w2 w5 by rw [e5]; exact E3.out.alloc E3.out.size _)
     have hs3 := Nat.le_trans hs2 E3.out.size
     have hs5 := Nat.le_trans hs2 E5.out.size
     have G5 := LH (G2.out.below E5.out)
     have B5 := LH (B2.out.trans (E5.out.mono (Nat.le_trans (Nat.le_succ _) hs2)))
     have T5 := LH (show Sl w5 (fun b => b < w5.heap.size ∧ (Value.slice A' m c').ownBlock ≠ some b ∧ Xs S w.heap.size b) 2 (some ⟨w3.heap.size, 0, none⟩) 1 [(rows[j]).toD] from
       slOne (T := 66) (cs := [.int .i64 rows[j].alt, .slice B1 rows[j].asks.length d1]) (by rw [e5]; exact Row.new' _ _ _ rfl) (GTrow.rd_mk (HAT.out.keep fun q hq => ⟨⟨Nat.lt_of_lt_of_le (HSL.out q hq) B5.out.size, fun e => by have := (HOW.out q e).1; have h4 := HSL.out q hq; omega, .inl hq⟩, ((E2.out.trans (E5.out.mono E2.out.size)).block q (Nat.lt_of_lt_of_le (HSL.out q hq) hsz))⟩)) rfl ⟨by rw [e5]; simp, fun e => by have := (HOW.out _ e).2; have := E2.out.size; have := E3.out.size; omega, .inr (by have := E2.out.size; have := E3.out.size; omega)⟩)
     go_wp2_with (first
       | (at_builtin
          rw [← e5]
          refine wpList_append_X w5 rfl (.tmp 39) (.tmp 44) 61 rfl 66 zTrow 2 32 Tryz.underlying61 (by kernel_rfl) rfl (by omega) (w.heap.size + 1) (.slice A' m c') m _ G5.out (some ⟨w3.heap.size, 0, none⟩) 1 1 _ rfl T5.out hs5 (by unfold maxLen; omega) (by omega) rfl rfl ?_
          intro A6 c6 w6 G6 hGr6
          have G6h := LH G6
          have Z6 := LH (Nat.le_trans hs5 hGr6.size)
          have Ra6 := LH (hGr6.row (R2.out.below E5.out R2.out.lt) (fun e => by have := (HOW.out _ e).1; omega))
          have B6 := LH (B5.out.trans (hGr6.below (B := w.heap.size) (by omega) (fun g hg => by have := (HOW.out g hg).1; omega)))
          clear G6 hGr6))
     go_roundw
     case rel => exact ⟨j + 1, m + 1, A6, c6, by omega, by go_num, rfl, by omega, LH (by rw [HV.out, List.map_append]; exact G6h.out), Ra6, Z6.out, B6⟩
     case measure => simp [intOf]; omega
    ·
     obtain ⟨k, hk, ek, hpk, -⟩ := idxI_spec (p := fun x : GAsk => x.path == a.path) (l := rows[j].asks) (show 0 ≤ findA rows[j].asks a.path by rw [HFI.out]; omega)
     obtain rfl : fi = (k : Int) := by rw [← HFI.out]; exact ek
     obtain ⟨b2, off2, D1, f1, D2, f2, rfl, hSb2, q0, q1, q2, q3, q4, q5, hatk⟩ := GAsk.elem (HAT.out.2.keep (w' := w2) (S' := Lt wr.heap.size) fun q hq => ⟨Nat.lt_of_lt_of_le (HSL.out q hq) hsz, E2.out.block q (Nat.lt_of_lt_of_le (HSL.out q hq) hsz)⟩) k hk
     have hSb2' : b2 < wr.heap.size := hSb2
     have hkl := HBD.out _ (List.getElem_mem hlt)
     have dn : decide ((k : Int) < 0) = false := decide_eq_false hn
     have HNO := LH (show no1 a rows[j] = !sameP rows[j].asks[k].pat a.pat by
       unfold no1
       rw [HFI.out, if_neg hn]
       simp [hk])
     have HAL := LH (fun x : World => specAskAlike rows[j].asks[k].pat a.pat D2 f2 A2 c2 x)
     have hbw2 := Nat.lt_of_lt_of_le hbl E2.out.size
     have hb2w := Nat.lt_of_lt_of_le hSb2' E2.out.size
     clear hpk ek hn hatk
     go_wp2_with fail
     go_simp
     go_region_held3 (fun w' => (∀ i, w'.cell? ⟨w.heap.size, i, none⟩ = (#[.slice A1 a.path.length c1, .int .i64 a.pat.op, .int .i64 a.pat.n, .string a.pat.s, .string a.pat.t, .slice A2 a.pat.kids.length c2] : Array Value)[i]?) ∧ w'.cell? ⟨b, off + j * 2 + 1, none⟩ = some (.slice (some ⟨b2, off2, none⟩) rows[j].asks.length d1) ∧ w'.cell? ⟨b2, off2 + k * 6 + 1, none⟩ = some (.int .i64 rows[j].asks[k].pat.op) ∧ w'.cell? ⟨b2, off2 + k * 6 + 1 + 1, none⟩ = some (.int .i64 rows[j].asks[k].pat.n) ∧ w'.cell? ⟨b2, off2 + k * 6 + 1 + 2, none⟩ = some (.string rows[j].asks[k].pat.s) ∧ w'.cell? ⟨b2, off2 + k * 6 + 1 + 3, none⟩ = some (.string rows[j].asks[k].pat.t) ∧ w'.cell? ⟨b2, off2 + k * 6 + 1 + 4, none⟩ = some (.slice D2 rows[j].asks[k].pat.kids.length f2)) (first | exact ⟨hca2, k1, q1, q2, q3, q4, q5⟩ | exact ⟨hca3, l1, r1, r2, r3, r4, r5⟩) (first
       | (go_at_call 69
          go_must (
            refine (HAL.out w2.drew).mono ?_
            rintro e w3 ⟨rfl, hb3⟩
            have E3 := LH (((Below.refl w2.heap.size w2).drew).trans hb3)
            have R3 := LH (R2.out.below E3.out R2.out.lt)
            have hca3 := fun i => R3.out.cell i
            have l1 := (E3.out.cell (p := ⟨b, off + j * 2 + 1, none⟩) hbw2).trans k1
            have r1 := (E3.out.cell (p := ⟨b2, off2 + k * 6 + 1, none⟩) hb2w).trans q1
            have r2 := (E3.out.cell (p := ⟨b2, off2 + k * 6 + 1 + 1, none⟩) hb2w).trans q2
            have r3 := (E3.out.cell (p := ⟨b2, off2 + k * 6 + 1 + 2, none⟩) hb2w).trans q3
            have r4 := (E3.out.cell (p := ⟨b2, off2 + k * 6 + 1 + 3, none⟩) hb2w).trans q4
            have r5 := (E3.out.cell (p := ⟨b2, off2 + k * 6 + 1 + 4, none⟩) hb2w).trans q5
            clear hb3)))
     all_goals
      cases hsp : sameP rows[j].asks[k].pat a.pat
      ·
       have HV := LH (show noR a (rows.take (j + 1)) = noR a (rows.take j) ++ [rows[j]] by rw [HT.out, HNO.out, hsp]; rfl)
       have c0 : w3.cell? ⟨b, off + j * 2, none⟩ = some (.int .i64 rows[j].alt) := (E3.out.cell (p := ⟨b, off + j * 2, none⟩) hbw2).trans k0
       have hs3 := Nat.le_trans hs2 E3.out.size
       clear hsp k0 k1 q0 q1 q2 q3 q4 q5 r1 r2 r3 r4 r5 hca2 hca3
       obtain ⟨w5, e5⟩ : ∃ w5, w5 = w3.alloc (.cells #[.int .i64 rows[j].alt, .slice (some ⟨b2, off2, none⟩) rows[j].asks.length d1] 66) := ⟨_, rfl⟩
       have E5 := LH (show Below w2.heap.size w2 w5 by rw [e5]; exact E3.out.alloc E3.out.size _)
       have hs5 := Nat.le_trans hs2 E5.out.size
       have G5 := LH (G2.out.below E5.out)
       have B5 := LH (B2.out.trans (E5.out.mono (Nat.le_trans (Nat.le_succ _) hs2)))
       have T5 := LH (show Sl w5 (fun b => b < w5.heap.size ∧ (Value.slice A' m c').ownBlock ≠ some b ∧ Xs S w.heap.size b) 2 (some ⟨w3.heap.size, 0, none⟩) 1 [(rows[j]).toD] from
         slOne (T := 66) (cs := [.int .i64 rows[j].alt, .slice (some ⟨b2, off2, none⟩) rows[j].asks.length d1]) (by rw [e5]; exact Row.new' _ _ _ rfl) (GTrow.rd_mk (HAT.out.keep fun q hq => ⟨⟨Nat.lt_of_lt_of_le (HSL.out q hq) B5.out.size, fun e => by have := (HOW.out q e).1; have h4 := HSL.out q hq; omega, .inl hq⟩, ((E2.out.trans (E5.out.mono E2.out.size)).block q (Nat.lt_of_lt_of_le (HSL.out q hq) hsz))⟩)) rfl ⟨by rw [e5]; simp, fun e => by have := (HOW.out _ e).2; have := E2.out.size; have := E3.out.size; omega, .inr (by have := E2.out.size; have := E3.out.size; omega)⟩)
       go_wp2_with (first
         | (at_builtin
            rw [← e5]
            refine wpList_append_X w5 rfl (.tmp 39) (.tmp 44) 61 rfl 66 zTrow 2 32 Tryz.underlying61 (by kernel_rfl) rfl (by omega) (w.heap.size + 1) (.slice A' m c') m _ G5.out (some ⟨w3.heap.size, 0, none⟩) 1 1 _ rfl T5.out hs5 (by unfold maxLen; omega) (by omega) rfl rfl ?_
            intro A6 c6 w6 G6 hGr6
            have G6h := LH G6
            have Z6 := LH (Nat.le_trans hs5 hGr6.size)
            have Ra6 := LH (hGr6.row (R2.out.below E5.out R2.out.lt) (fun e => by have := (HOW.out _ e).1; omega))
            have B6 := LH (B5.out.trans (hGr6.below (B := w.heap.size) (by omega) (fun g hg => by have := (HOW.out g hg).1; omega)))
            clear G6 hGr6))
       go_roundw
       case rel => exact ⟨j + 1, m + 1, A6, c6, by omega, by go_num, rfl, by omega, LH (by rw [HV.out, List.map_append]; exact G6h.out), Ra6, Z6.out, B6⟩
       case measure => simp [intOf]; omega
      · have HV := LH (show noR a (rows.take (j + 1)) = noR a (rows.take j) by rw [HT.out, HNO.out, hsp]; simp)
        have B3 := LH (B2.out.trans (E3.out.mono (Nat.le_trans (Nat.le_succ _) hs2)))
        have G3 := LH (G2.out.below E3.out)
        have hs3 := Nat.le_trans hs2 E3.out.size
        clear hsp k0 k1 q0 q1 q2 q3 q4 q5 r1 r2 r3 r4 r5 hca2 hca3
        go_wp2_with fail
        go_roundw
        case rel => exact ⟨j + 1, m, A', c', by omega, by go_num, rfl, by omega, LH (by rw [HV.out]; exact G3.out), R3, hs3, B3⟩
        case measure => simp [intOf]; omega
  ·
   have hje : j = rows.length := by omega
   have HLE := LH (show rows.take j = rows by rw [hje, List.take_length])
   have dl : decide ((j : Int) < (rows.length : Int)) = false := decide_eq_false (by omega)
   clear hje
   go_wp2_with fail
   go_ret
   have hG := HG.out
   rw [HLE.out] at hG
   obtain ⟨A5, c5, e5, hs5⟩ := hG.slY (Y := Xs S w.heap.size) (fun _ h => h) (fun b h => .inr (by omega))
   have hl5 := hG.1
   obtain ⟨rfl, rfl⟩ : A' = A5 ∧ c' = c5 := by simpa using e5
   exact ⟨A', c', ret_sl (by rw [← hl5]; simp), hs5, HB.out⟩
def asksM (l : List GAsk) : Nat := bulkL (fun x : GAsk => x.pat.bulk) l
theorem asksM_nil : asksM [] = 0 := rfl
theorem asksM_cons (x : GAsk) (l : List GAsk) : asksM (x :: l) = 1 + x.pat.bulk + asksM l := rfl
theorem asksM_append : ∀ (a b : List GAsk), asksM (a ++ b) = asksM a + asksM b
 | [], b => by simp [asksM_nil]
 | x :: a, b => by rw [List.cons_append, asksM_cons, asksM_cons, asksM_append a b]; omega
theorem asksM_len (l : List GAsk) : l.length ≤ asksM l := bulkL_len _ l
theorem asksM_mem {l : List GAsk} {x : GAsk} (h : x ∈ l) : x.pat.bulk + 1 ≤ asksM l := bulkL_mem (fun x : GAsk => x.pat.bulk) l x h
theorem asksM_bare : ∀ (l : List GAsk), asksM (bareA l) ≤ asksM l
 | [] => Nat.le_refl _
 | x :: l => by
  have h := asksM_bare l
  unfold bareA at h ⊢
  rw [List.filter_cons]
  split
  · rw [asksM_cons, asksM_cons]; omega
  · rw [asksM_cons]; omega
theorem kidsA_len (p : List Int) : ∀ (i : Nat) (l : List GNode), (kidsA p i l).length = l.length
 | _, [] => rfl
 | i, k :: r => by show (kidsA p (i + 1) r).length + 1 = r.length + 1; rw [kidsA_len p (i + 1) r]
theorem kidsA_M (p : List Int) : ∀ (i : Nat) (l : List GNode), asksM (kidsA p i l) = bulkL GNode.bulk l
 | _, [] => rfl
 | i, k :: r => by show 1 + k.bulk + asksM (kidsA p (i + 1) r) = 1 + k.bulk + bulkL GNode.bulk r; rw [kidsA_M p (i + 1) r]
theorem kidsA_snoc (p : List Int) (x : GNode) : ∀ (i : Nat) (l : List GNode), kidsA p i (l ++ [x]) = kidsA p i l ++ [⟨p ++ [((i + l.length : Nat) : Int)], x⟩]
 | i, [] => rfl
 | i, k :: r => by
  show ⟨p ++ [(i : Int)], k⟩ :: kidsA p (i + 1) (r ++ [x]) = ⟨p ++ [(i : Int)], k⟩ :: (kidsA p (i + 1) r ++ [⟨p ++ [((i + (r.length + 1) : Nat) : Int)], x⟩])
  rw [kidsA_snoc p x (i + 1) r, show i + 1 + r.length = i + (r.length + 1) by omega]
theorem kidsA_take (p : List Int) (l : List GNode) (i : Nat) (h : i < l.length) : kidsA p 0 (l.take (i + 1)) = kidsA p 0 (l.take i) ++ [⟨p ++ [(i : Int)], l[i]⟩] := by
 rw [take_snoc' l i h, kidsA_snoc]
 simp [Nat.min_eq_left (Nat.le_of_lt h)]
theorem kidsA_mem (p : List Int) : ∀ (i : Nat) (l : List GNode) (x : GAsk), x ∈ kidsA p i l → x.path.length = p.length + 1 ∧ x.pat ∈ l
 | _, [], x, h => by cases h
 | i, k :: r, x, h => by
  have h2 : x ∈ (⟨p ++ [(i : Int)], k⟩ : GAsk) :: kidsA p (i + 1) r := h
  rcases List.mem_cons.1 h2 with rfl | h3
  · simp
  · have := kidsA_mem p (i + 1) r x h3
    exact ⟨this.1, List.mem_cons_of_mem _ this.2⟩
theorem asksM_split (l : List GAsk) (k : Nat) (h : k < l.length) : asksM l = asksM (l.take k) + (1 + l[k].pat.bulk) + asksM (l.drop (k + 1)) := by
 have h1 : l = l.take k ++ (l[k] :: l.drop (k + 1)) := by rw [← List.drop_eq_getElem_cons h, List.take_append_drop]
 calc asksM l = asksM (l.take k ++ (l[k] :: l.drop (k + 1))) := by rw [← h1]
  _ = _ := by rw [asksM_append, asksM_cons]; omega
theorem asksM_turned (l : List GAsk) (k : Nat) (h : k < l.length) (p : List Int) : asksM (l.take k ++ kidsA p 0 l[k].pat.kids ++ l.drop (k + 1)) ≤ asksM l := by
 rw [asksM_append, asksM_append, kidsA_M, asksM_split l k h]
 have := GNode.bulk_eq l[k].pat
 omega
theorem bareA_all {l : List GAsk} (h : ∀ x ∈ l, isAnyB x.pat = false) : bareA l = l := by
 unfold bareA
 rw [List.filter_eq_self]
 intro x hx
 simp [h x hx]
theorem bareA_append (a b : List GAsk) : bareA (a ++ b) = bareA a ++ bareA b := by unfold bareA; exact List.filter_append ..
theorem bareA_turned {l : List GAsk} (h : ∀ x ∈ l, isAnyB x.pat = false) (k : Nat) (m : List GAsk) : bareA (l.take k ++ m ++ l.drop (k + 1)) = l.take k ++ bareA m ++ l.drop (k + 1) := by
 rw [bareA_append, bareA_append, bareA_all fun x hx => h x (List.mem_of_mem_take hx), bareA_all fun x hx => h x (List.mem_of_mem_drop hx)]
def RowsOk (n : Nat) (rows : List GTrow) : Prop := ∀ r ∈ rows, asksM r.asks ≤ 1048576 ∧ ∀ x ∈ r.asks, isAnyB x.pat = false ∧ x.path.length ≤ n
theorem RowsOk.mono {n m : Nat} {rows : List GTrow} (h : RowsOk n rows) (hm : n ≤ m) : RowsOk m rows := fun r hr => ⟨(h r hr).1, fun x hx => ⟨((h r hr).2 x hx).1, Nat.le_trans ((h r hr).2 x hx).2 hm⟩⟩
theorem RowsOk.no {n : Nat} {rows : List GTrow} (h : RowsOk n rows) (a : GAsk) : RowsOk n (noR a rows) := fun r hr => h r ((List.mem_filter.1 hr).1)
theorem RowsOk.yes {n : Nat} {rows : List GTrow} (h : RowsOk n rows) (a : GAsk) (ha : a.path.length ≤ n) : RowsOk (n + 1) (yesR a rows) := by
 intro r hr
 unfold yesR at hr
 obtain ⟨r0, h0, h1⟩ := List.mem_filterMap.1 hr
 have H := h r0 h0
 unfold yes1 at h1
 split at h1
 · obtain rfl := Option.some.inj h1
   exact ⟨H.1, fun x hx => ⟨(H.2 x hx).1, Nat.le_succ_of_le (H.2 x hx).2⟩⟩
 ·
  rename_i hf
  split at h1
  ·
   rename_i x hx
   split at h1
   ·
    obtain rfl := Option.some.inj h1
    obtain ⟨hk, rfl⟩ := List.getElem?_eq_some_iff.1 hx
    refine ⟨?_, fun y hy => ?_⟩
    · have h2 := asksM_turned r0.asks (findA r0.asks a.path).toNat hk a.path
      have h3 := asksM_bare (kidsA a.path 0 r0.asks[(findA r0.asks a.path).toNat].pat.kids)
      have h4 := H.1
      rw [asksM_append, asksM_append] at h2 ⊢
      omega
    ·
     rcases List.mem_append.1 hy with hy | hy
     · rcases List.mem_append.1 hy with hy | hy
       · have := H.2 y (List.mem_of_mem_take hy)
         exact ⟨this.1, Nat.le_succ_of_le this.2⟩
       · unfold bareA at hy
         have h5 := List.mem_filter.1 hy
         have h6 := kidsA_mem _ _ _ _ h5.1
         exact ⟨by simpa using h5.2, by omega⟩
     · have := H.2 y (List.mem_of_mem_drop hy)
       exact ⟨this.1, Nat.le_succ_of_le this.2⟩
   · cases h1
  · cases h1
def restAt (b off size k c : Nat) : Option Addr := if c = k then some ⟨b, off, none⟩ else some ⟨b, off + k * size, none⟩
theorem run_restAt {P : Program} (T e : TypeId) (size : Nat) (ht : P.underlying T = some (.slice e)) (hi : (P.info? e).map (fun i => i.size) = some size) (b off n c k : Nat) (i : Int) (hik : i = (k : Int)) (hk : k ≤ n) (hn : n ≤ c) (w : World) :
 (Instr.slice T (.slice (some ⟨b, off, none⟩) n c) (some (.int .i64 i)) none none).run P w = .ok (.slice (restAt b off size k c) (n - k) (c - k)) w := by
 subst hik
 have he : P.elem T = e := by simp [Program.elem, ht]
 obtain ⟨i, h1, h2⟩ := Option.map_eq_some_iff.1 hi
 subst h2
 rw [run_slice_l w T (some ⟨b, off, none⟩) n c (by rw [he]; exact ht) .i64 k (by omega) (by omega)]
 rw [he]
 simp only [sizeOf, typeInfo, Sem.run_bind, h1, Result.andThen_ok, Sem.run_pure, sliced, restAt]
 by_cases hc : c = k
 · subst hc
   simp [h1, Result.andThen]
 · simp [h1, Result.andThen, hc, Addr.add]
theorem run_headAt {P : Program} (T e : TypeId) (size : Nat) (ht : P.underlying T = some (.slice e)) (hi : (P.info? e).map (fun i => i.size) = some size) (b off n c k : Nat) (i : Int) (hik : i = (k : Int)) (hk : k ≤ c) (w : World) :
 (Instr.slice T (.slice (some ⟨b, off, none⟩) n c) none (some (.int .i64 i)) none).run P w = .ok (.slice (some ⟨b, off, none⟩) k c) w := by
 subst hik
 have he : P.elem T = e := by simp [Program.elem, ht]
 obtain ⟨i, h1, h2⟩ := Option.map_eq_some_iff.1 hi
 subst h2
 rw [run_slice_h w T (some ⟨b, off, none⟩) n c (by rw [he]; exact ht) .i64 k (by omega) (by omega)]
 rw [he]
 simp only [sizeOf, typeInfo, Sem.run_bind, h1, Result.andThen_ok, Sem.run_pure, sliced]
 simp [h1, Result.andThen, Addr.add]
theorem Sl.restAt {w : World} {S : Nat → Prop} {size b off c k : Nat} {xs : List D} (h : Sl w S size (some ⟨b, off, none⟩) c xs) (hk : k ≤ xs.length) : Sl w S size (restAt b off size k c) (c - k) (xs.drop k) := by
 have hl := h.1
 unfold Go.Proofs.YtjjikciggbnjmaaGreat.restAt
 split
 · rename_i hc
   have hcl : c ≤ maxLen := h.2.1
   have : xs.drop k = [] := List.drop_eq_nil_of_le (by omega)
   rw [this]
   exact Sl.nil (by omega)
 · exact Sl.drop h k hk
theorem yesR_take {a : GAsk} {rows : List GTrow} {j : Nat} (h : j < rows.length) : yesR a (rows.take (j + 1)) = yesR a (rows.take j) ++ (yes1 a rows[j]).toList := by
 unfold yesR; rw [take_snoc' rows j h, List.filterMap_append]; cases hr : yes1 a rows[j] <;> simp [hr]
def Xw1 (v : Value) (Y : Nat → Prop) : Nat → Prop := fun b => v.ownBlock ≠ some b ∧ Y b
def Xn (n : Nat) (v : Value) (Y : Nat → Prop) : Nat → Prop := fun b => b ≠ n ∧ v.ownBlock ≠ some b ∧ Y b
theorem Grx.keepN {V : Value} {Y : Nat → Prop} {w w' : World} {B n size : Nat} {e : TypeId} {v : Value} {m : Nat} {xs : List D} (h : Grx (Xn n V Y) w B e size v m xs) (hv : v.ownBlock ≠ some n) (hs : w.heap.size ≤ w'.heap.size) (hk : ∀ b, b < w.heap.size → b ≠ n → w'.heap[b]? = w.heap[b]?) : Grx (Xn n V Y) w' B e size v m xs := by
 have ho := h.own
 obtain ⟨h1, cs, h2, h4⟩ := h
 refine ⟨h1, cs, ⟨h2.1, ?_⟩, rdC_keep (fun b hb => ⟨⟨Nat.lt_of_lt_of_le hb.1 hs, hb.2⟩, hk b hb.1 hb.2.2.1⟩) xs cs h4⟩
 rcases h2.2 with h | ⟨g, cap, cur, rfl, a1, a2, a3⟩
 · exact .inl h
 · exact .inr ⟨g, cap, cur, rfl, a1, (hk g (ho g rfl).2 (fun e => hv (by rw [← e]; rfl))).trans a2, a3⟩
theorem Grx.toN {V : Value} {Y : Nat → Prop} {w w' : World} {B size : Nat} {e : TypeId} {v : Value} {m : Nat} {xs : List D} (h : Grx (Xw1 V Y) w B e size v m xs) (hb : Below w.heap.size w w') : Grx (Xn w.heap.size V Y) w' B e size v m xs := by
 have ho := h.own
 obtain ⟨h1, cs, h2, h4⟩ := h
 refine ⟨h1, cs, ⟨h2.1, ?_⟩, rdC_keep (fun b hb2 => ⟨⟨Nat.lt_of_lt_of_le hb2.1 hb.size, hb2.2.1, Nat.ne_of_lt hb2.1, hb2.2.2⟩, hb.block b hb2.1⟩) xs cs h4⟩
 rcases h2.2 with h | ⟨g, cap, cur, rfl, a1, a2, a3⟩
 · exact .inl h
 · exact .inr ⟨g, cap, cur, rfl, a1, (hb.block g (ho g rfl).2).trans a2, a3⟩
theorem specYes (S : Nat → Prop) (a : GAsk) (rows : List GTrow) (A : Option Addr) (c : Nat) (A1 : Option Addr) (c1 : Nat) (A2 : Option Addr) (c2 : Nat) (w : World) (hl : rows.length ≤ 1048576) (n : Nat) (hn : n ≤ 1048575) (hap : a.path.length ≤ n) (hb : RowsOk n rows) (hS : ∀ b, S b → b < w.heap.size) (hs : Sl w S 2 A c (rows.map GTrow.toD)) (ha : GAsk.At w (Lt w.heap.size) A1 c1 A2 c2 a) :
 Calls Tryz.prog 40 #[.slice A rows.length c, .agg (askC a A1 c1 A2 c2)] w (ToTrowsS S (yesR a rows) w) := by
 unfold askC
 have HS := LH hs
 have HA := LH ha
 have HBD := LH hb
 have HSL := LH hS
 clear hs ha hb hS
 obtain ⟨w0, e0⟩ : ∃ w0, w0 = (w.alloc (.cells #[.slice A1 a.path.length c1, .int .i64 a.pat.op, .int .i64 a.pat.n, .string a.pat.s, .string a.pat.t, .slice A2 a.pat.kids.length c2] 69)).alloc (.cells #[] 66) := ⟨_, rfl⟩
 have HB0 := LH (show Below w.heap.size w w0 by rw [e0]; exact ((Below.refl _ _).alloc (Nat.le_refl _) _).alloc (by simp) _)
 have HRa0 := LH (show Row w0 w.heap.size 69 #[.slice A1 a.path.length c1, .int .i64 a.pat.op, .int .i64 a.pat.n, .string a.pat.s, .string a.pat.t, .slice A2 a.pat.kids.length c2] by rw [e0]; exact (Row.new' _ _ _ rfl).alloc _)
 have G0 := LH (show Grx (Xs S w.heap.size) w0 (w.heap.size + 1) 66 2 (.slice (some ⟨w.heap.size + 1, 0, none⟩) 0 0) 0 [] from Grx.made (by rw [e0]; exact Row.new' _ _ _ (by simp)) (Nat.le_refl _))
 have hs0 : w.heap.size + 1 ≤ w0.heap.size := by rw [e0]; simp
 go_enter Tryz.func40, Tryz.ntmps40
 go_wp2_with fail
 rw [← e0]
 clear e0
 go_loopw [5, 6] (fun v i wr => ∃ (j m : Nat) (A' : Option Addr) (c' : Nat), j ≤ rows.length ∧ i = .int .i64 j ∧ v = .slice A' m c' ∧ m ≤ j ∧ Hid (Grx (Xs S w.heap.size) wr (w.heap.size + 1) 66 2 (.slice A' m c') m ((yesR a (rows.take j)).map GTrow.toD)) ∧ Hid (Row wr w.heap.size 69 #[.slice A1 a.path.length c1, .int .i64 a.pat.op, .int .i64 a.pat.n, .string a.pat.s, .string a.pat.t, .slice A2 a.pat.kids.length c2]) ∧ w.heap.size + 1 ≤ wr.heap.size ∧ Hid (Below w.heap.size w wr)) (fun _ i _ => rows.length - (intOf i).toNat)
 case atStart => exact ⟨0, 0, _, _, by omega, by go_num, rfl, by omega, G0, HRa0, hs0, HB0⟩
 case round =>
  clear HRa0 HB0 G0 hs0
  obtain ⟨j, m, A', c', hj, rfl, rfl, hm, HG, HRa, hs1, HB⟩ := hrel
  have hsz := HB.out.size
  have hca := fun i => HRa.out.cell i
  have HOW := LH (fun g (hg : (Value.slice A' m c').ownBlock = some g) => HG.out.own g hg)
  by_cases hlt : j < rows.length
  ·
   obtain ⟨b, off, B1, d1, rfl, hSb, g0, g1, hat⟩ := GTrow.elem (HS.out.keep (w' := wr) (S' := S) fun q hq => ⟨hq, HB.out.block q (HSL.out q hq)⟩) j hlt
   have hSb' : b < w.heap.size := HSL.out b hSb
   have hbl : b < wr.heap.size := Nat.lt_of_lt_of_le hSb' hsz
   have dl : decide ((j : Int) < (rows.length : Int)) = true := decide_eq_true (by omega)
   have HAT := LH hat
   obtain ⟨fi, hfi⟩ : ∃ fi, findA rows[j].asks a.path = fi := ⟨_, rfl⟩
   have hff := specFind rows[j] a.path B1 d1 A1 c1 wr.drew (Nat.le_trans (asksM_len _) (HBD.out _ (List.getElem_mem hlt)).1) (hat.2.keep fun q hq => ⟨Nat.lt_of_lt_of_le (HSL.out q hq) hsz, rfl⟩) ((HA.out.1.below HB.out (Nat.le_refl _)).keep fun q hq => ⟨Nat.lt_of_lt_of_le hq hsz, rfl⟩)
   rw [hfi] at hff
   have HF := LH hff
   have HFI := LH hfi
   clear hff hfi
   have HT := LH (yesR_take (a := a) (rows := rows) (j := j) hlt)
   clear hat
   go_wp2_with fail
   go_region_held3 (fun x => (∀ i, x.cell? ⟨w.heap.size, i, none⟩ = (#[.slice A1 a.path.length c1, .int .i64 a.pat.op, .int .i64 a.pat.n, .string a.pat.s, .string a.pat.t, .slice A2 a.pat.kids.length c2] : Array Value)[i]?) ∧ x.cell? ⟨b, off + j * 2, none⟩ = some (.int .i64 rows[j].alt) ∧ x.cell? ⟨b, off + j * 2 + 1, none⟩ = some (.slice B1 rows[j].asks.length d1)) (first | exact ⟨hca, g0, g1⟩ | exact ⟨hca2, k0, k1⟩) (first
     | (go_at_call 68
        go_must (
          refine HF.out.mono ?_
          rintro e w2 ⟨rfl, hb2⟩
          have E2 := LH (((Below.refl wr.heap.size wr).drew).trans hb2)
          have R2 := LH (HRa.out.below E2.out HRa.out.lt)
          have hca2 := fun i => R2.out.cell i
          have k0 := (E2.out.cell (p := ⟨b, off + j * 2, none⟩) hbl).trans g0
          have k1 := (E2.out.cell (p := ⟨b, off + j * 2 + 1, none⟩) hbl).trans g1
          clear hb2)))
   all_goals
    have B2 := LH (HB.out.trans (E2.out.mono hsz))
    have hs2 := Nat.le_trans hs1 E2.out.size
    have G2 := LH (HG.out.below E2.out)
    clear g0 g1 hca
    by_cases hnn : fi < 0
    ·
     have HV := LH (show yesR a (rows.take (j + 1)) = yesR a (rows.take j) ++ [rows[j]] by rw [HT.out]; unfold yes1; rw [HFI.out]; simp [hnn])
     have dn : decide (fi < 0) = true := decide_eq_true hnn
     clear hnn
     obtain ⟨w3, e3⟩ : ∃ w3, w3 = w2 := ⟨_, rfl⟩
     have E3 := LH (show Below w2.heap.size w2 w3 by rw [e3]; exact Below.refl _ _)
     rw [← e3] at k0 k1 ⊢
     clear e3
     obtain ⟨w5, e5⟩ : ∃ w5, w5 = w3.alloc (.cells #[.int .i64 rows[j].alt, .slice B1 rows[j].asks.length d1] 66) := ⟨_, rfl⟩
     have E5 := LH (show Below w2.heap.size w2 w5 by rw [e5]; exact E3.out.alloc E3.out.size _)
     have hs3 := Nat.le_trans hs2 E3.out.size
     have hs5 := Nat.le_trans hs2 E5.out.size
     have G5 := LH (G2.out.below E5.out)
     have B5 := LH (B2.out.trans (E5.out.mono (Nat.le_trans (Nat.le_succ _) hs2)))
     have T5 := LH (show Sl w5 (fun b => b < w5.heap.size ∧ (Value.slice A' m c').ownBlock ≠ some b ∧ Xs S w.heap.size b) 2 (some ⟨w3.heap.size, 0, none⟩) 1 [(rows[j]).toD] from
       slOne (T := 66) (cs := [.int .i64 rows[j].alt, .slice B1 rows[j].asks.length d1]) (by rw [e5]; exact Row.new' _ _ _ rfl) (GTrow.rd_mk (HAT.out.keep fun q hq => ⟨⟨Nat.lt_of_lt_of_le (HSL.out q hq) B5.out.size, fun e => by have := (HOW.out q e).1; have h4 := HSL.out q hq; omega, .inl hq⟩, ((E2.out.trans (E5.out.mono E2.out.size)).block q (Nat.lt_of_lt_of_le (HSL.out q hq) hsz))⟩)) rfl ⟨by rw [e5]; simp, fun e => by have := (HOW.out _ e).2; have := E2.out.size; have := E3.out.size; omega, .inr (by have := E2.out.size; have := E3.out.size; omega)⟩)
     go_wp2_with (first
       | (at_builtin
          rw [← e5]
          refine wpList_append_X w5 rfl (.tmp 27) (.tmp 32) 61 rfl 66 zTrow 2 32 Tryz.underlying61 (by kernel_rfl) rfl (by omega) (w.heap.size + 1) (.slice A' m c') m _ G5.out (some ⟨w3.heap.size, 0, none⟩) 1 1 _ rfl T5.out hs5 (by unfold maxLen; omega) (by omega) rfl rfl ?_
          intro A6 c6 w6 G6 hGr6
          have G6h := LH G6
          have Z6 := LH (Nat.le_trans hs5 hGr6.size)
          have Ra6 := LH (hGr6.row (R2.out.below E5.out R2.out.lt) (fun e => by have := (HOW.out _ e).1; omega))
          have B6 := LH (B5.out.trans (hGr6.below (B := w.heap.size) (by omega) (fun g hg => by have := (HOW.out g hg).1; omega)))
          clear G6 hGr6))
     go_roundw
     case rel => exact ⟨j + 1, m + 1, A6, c6, by omega, by go_num, rfl, by omega, LH (by rw [HV.out, List.map_append]; exact G6h.out), Ra6, Z6.out, B6⟩
     case measure => simp [intOf]; omega
    ·
     obtain ⟨k, hk, ek, hpk, -⟩ := idxI_spec (p := fun x : GAsk => x.path == a.path) (l := rows[j].asks) (show 0 ≤ findA rows[j].asks a.path by rw [HFI.out]; omega)
     obtain rfl : fi = (k : Int) := by rw [← HFI.out]; exact ek
     obtain ⟨b2, off2, D1, f1, D2, f2, rfl, hSb2, q0, q1, q2, q3, q4, q5, hatk⟩ := GAsk.elem (HAT.out.2.keep (w' := w2) (S' := S) fun q hq => ⟨hq, E2.out.block q (Nat.lt_of_lt_of_le (HSL.out q hq) hsz)⟩) k hk
     have hSb2' : b2 < wr.heap.size := Nat.lt_of_lt_of_le (HSL.out _ hSb2) hsz
     have hkl := asksM_len rows[j].asks
     have hkm := (HBD.out _ (List.getElem_mem hlt)).1
     have hkn : rows[j].asks[k].pat.kids.length ≤ 1048576 := by
      have h1 := asksM_mem (List.getElem_mem hk)
      have h2 := GNode.bulk_eq rows[j].asks[k].pat
      have h3 := bulkL_len GNode.bulk rows[j].asks[k].pat.kids
      omega
     have dn : decide ((k : Int) < 0) = false := decide_eq_false hnn
     have HYE := LH (show yes1 a rows[j] = if sameP rows[j].asks[k].pat a.pat = true then some ⟨rows[j].alt, rows[j].asks.take k ++ bareA (kidsA a.path 0 rows[j].asks[k].pat.kids) ++ rows[j].asks.drop (k + 1)⟩ else none by
       unfold yes1
       rw [HFI.out, if_neg hnn]
       simp [hk])
     have HAL := LH (fun x : World => specAskAlike rows[j].asks[k].pat a.pat D2 f2 A2 c2 x)
     have hbw2 := Nat.lt_of_lt_of_le hbl E2.out.size
     have hb2w := Nat.lt_of_lt_of_le hSb2' E2.out.size
     have HATK := LH hatk
     have hr2 := R2.out.lt
     obtain ⟨w3, e3⟩ : ∃ w3, w3 = w2.alloc (.cells #[.int .i64 rows[j].asks[k].pat.op, .int .i64 rows[j].asks[k].pat.n, .string rows[j].asks[k].pat.s, .string rows[j].asks[k].pat.t, .slice D2 rows[j].asks[k].pat.kids.length f2] 39) := ⟨_, rfl⟩
     have E3 := LH (show Below w2.heap.size w2 w3 by rw [e3]; exact (Below.refl _ _).alloc (Nat.le_refl _) _)
     have RQ3 := LH (show Row w3 w2.heap.size 39 #[.int .i64 rows[j].asks[k].pat.op, .int .i64 rows[j].asks[k].pat.n, .string rows[j].asks[k].pat.s, .string rows[j].asks[k].pat.t, .slice D2 rows[j].asks[k].pat.kids.length f2] by rw [e3]; exact Row.new _ _ _)
     clear hpk ek hnn hatk
     go_wp2_with fail
     rw [← e3]
     refine (HAL.out w3).mono ?_
     rintro e w4 ⟨rfl, hb4⟩
     have E4 := LH (E3.out.trans (hb4.mono E3.out.size))
     have RQ4 := LH (RQ3.out.below hb4 RQ3.out.lt)
     have R4 := LH (R2.out.below E4.out hr2)
     have B4 := LH (B2.out.trans (E4.out.mono (Nat.le_trans (Nat.le_succ _) hs2)))
     have G4 := LH (G2.out.below E4.out)
     have hs4 := Nat.le_trans hs2 E4.out.size
     clear hb4 e3 hca2
     cases hsp : sameP rows[j].asks[k].pat a.pat
     · have HV := LH (show yesR a (rows.take (j + 1)) = yesR a (rows.take j) by rw [HT.out, HYE.out, hsp]; simp)
       clear hsp k0 k1 q0 q1 q2 q3 q4 q5
       go_wp2_with fail
       go_roundw
       case rel => exact ⟨j + 1, m, A', c', by omega, by go_num, rfl, by omega, LH (by rw [HV.out]; exact G4.out), R4, hs4, B4⟩
       case measure => simp [intOf]; omega
     ·
      have HV := LH (show yesR a (rows.take (j + 1)) = yesR a (rows.take j) ++ [⟨rows[j].alt, rows[j].asks.take k ++ bareA (kidsA a.path 0 rows[j].asks[k].pat.kids) ++ rows[j].asks.drop (k + 1)⟩] by rw [HT.out, HYE.out, hsp]; rfl)
      have hca4 := fun i => R4.out.cell i
      have hcq4 := fun i => RQ4.out.cell i
      have p0 : w4.cell? ⟨b, off + j * 2, none⟩ = some (.int .i64 rows[j].alt) := (E4.out.cell (p := ⟨b, off + j * 2, none⟩) hbw2).trans k0
      have p1 : w4.cell? ⟨b, off + j * 2 + 1, none⟩ = some (.slice (some ⟨b2, off2, none⟩) rows[j].asks.length d1) := (E4.out.cell (p := ⟨b, off + j * 2 + 1, none⟩) hbw2).trans k1
      clear hsp k0 k1 q0 q1 q2 q3 q4 q5
      have hd1 := HAT.out.2.1
      rw [List.length_map] at hd1
      have HH := run_headAt (P := Tryz.prog) 64 69 6 Tryz.underlying64 (by kernel_rfl) b2 off2 rows[j].asks.length d1 k k rfl (by omega)
      have hz4 : w.heap.size ≤ w4.heap.size := B4.out.size
      have hb4 := Nat.lt_of_lt_of_le hbw2 E4.out.size
      have HK4 := LH (fun q (hq : q < w.heap.size) => show w4.heap[q]? = wr.heap[q]? from (E2.out.trans (E4.out.mono E2.out.size)).block q (Nat.lt_of_lt_of_le hq hsz))
      have HT5 := LH (fun (X : Nat → Prop) (x : World) (be : Nat) (hx : Below w4.heap.size w4 x) (hbe : w4.heap.size ≤ be) (hX : ∀ q, S q → X q) => show Sl x (fun b => b < x.heap.size ∧ (Value.slice (some ⟨be, 0, none⟩) 0 0).ownBlock ≠ some b ∧ X b) 6 (some ⟨b2, off2, none⟩) d1 ((rows[j].asks.take k).map GAsk.toD) by
        rw [List.map_take]
        exact (HAT.out.2.take k).keep fun q hq => ⟨⟨Nat.lt_of_lt_of_le (HSL.out q hq) (Nat.le_trans hz4 hx.size), fun e => by have := own_ge e; have h4 := HSL.out q hq; omega, hX q hq⟩, (hx.block q (Nat.lt_of_lt_of_le (HSL.out q hq) hz4)).trans (HK4.out q (HSL.out q hq))⟩)
      have HF5 := LH (fun (x : World) (hx : Below w4.heap.size w4 x) => show x.cell? ⟨b, off + j * 2, none⟩ = some (.int .i64 rows[j].alt) ∧ x.cell? ⟨b, off + j * 2 + 1, none⟩ = some (.slice (some ⟨b2, off2, none⟩) rows[j].asks.length d1) from ⟨(hx.cell (p := ⟨b, off + j * 2, none⟩) hb4).trans p0, (hx.cell (p := ⟨b, off + j * 2 + 1, none⟩) hb4).trans p1⟩)
      have GA5 := LH (show Grx (Xw1 (.slice A' m c') (Xs S w.heap.size)) (w4.alloc (.cells #[] 69)).drew w4.heap.size 69 6 (.slice (some ⟨w4.heap.size, 0, none⟩) 0 0) 0 [] from Grx.made (Row.new w4 _ _) (Nat.le_refl _))
      have GB5 := LH (show Grx (Xn (w4.heap.size + 1) (.slice A' m c') (Xs S w.heap.size)) ((w4.alloc (.cells #[] 69)).alloc (.cells #[.int .i64 0, .slice none 0 0] 66)).drew w4.heap.size 69 6 (.slice (some ⟨w4.heap.size, 0, none⟩) 0 0) 0 [] from Grx.made ((Row.new w4 _ _).alloc _) (Nat.le_refl _))
      have GC5 := LH (show Grx (Xn w4.heap.size (.slice A' m c') (Xs S w.heap.size)) ((w4.alloc (.cells #[.int .i64 0, .slice none 0 0] 66)).alloc (.cells #[] 69)).drew w4.heap.size 69 6 (.slice (some ⟨w4.heap.size + 1, 0, none⟩) 0 0) 0 [] from Grx.made (show Row ((w4.alloc (.cells #[.int .i64 0, .slice none 0 0] 66)).alloc (.cells #[] 69)) (w4.heap.size + 1) 69 #[] from Row.new' _ _ _ (by simp)) (Nat.le_succ _))
      have RB5 := LH (show Row ((w4.alloc (.cells #[] 69)).alloc (.cells #[.int .i64 0, .slice none 0 0] 66)).drew (w4.heap.size + 1) 66 #[.int .i64 0, .slice none 0 0] from (show Row ((w4.alloc (.cells #[] 69)).alloc (.cells #[.int .i64 0, .slice none 0 0] 66)) (w4.heap.size + 1) 66 #[.int .i64 0, .slice none 0 0] from Row.new' _ _ _ (by simp)))
      have RC5 := LH (show Row ((w4.alloc (.cells #[.int .i64 0, .slice none 0 0] 66)).alloc (.cells #[] 69)).drew w4.heap.size 66 #[.int .i64 0, .slice none 0 0] from (Row.new w4 _ _).alloc _)
      have NB5 := LH (show (Value.slice (some ⟨w4.heap.size, 0, none⟩) 0 0).ownBlock ≠ some (w4.heap.size + 1) by simp [Value.ownBlock])
      have NC5 := LH (show (Value.slice (some ⟨w4.heap.size + 1, 0, none⟩) 0 0).ownBlock ≠ some w4.heap.size by simp [Value.ownBlock])
      obtain ⟨oe, hoe⟩ : ∃ oe, oe = Obj.cells #[] 69 := ⟨_, rfl⟩
      obtain ⟨on, hon⟩ : ∃ on, on = Obj.cells #[.int .i64 0, .slice none 0 0] 66 := ⟨_, rfl⟩
      have EA := LH (show Below w4.heap.size w4 (w4.alloc oe).drew from ((Below.refl _ _).alloc (Nat.le_refl _) _).drew)
      have EB := LH (show Below w4.heap.size w4 ((w4.alloc oe).alloc on).drew from (((Below.refl _ _).alloc (Nat.le_refl _) _).alloc (by simp) _).drew)
      have EC := LH (show Below w4.heap.size w4 ((w4.alloc on).alloc oe).drew from (((Below.refl _ _).alloc (Nat.le_refl _) _).alloc (by simp) _).drew)
      rw [hoe] at EA EB EC
      rw [hon] at EB EC
      clear hoe hon
      go_upto_region 10 with (fail)
      go_cut [9] from 48 to 62 (fun v x => ∃ (n3 : Nat) (A6 : Option Addr) (c6 : Nat), v = .pointer (some ⟨n3, 0, none⟩) ∧ Hid (Below w4.heap.size w4 x) ∧ Hid (Row x n3 66 #[.int .i64 rows[j].alt, .slice A6 k c6]) ∧ Hid (Grx (Xn n3 (.slice A' m c') (Xs S w.heap.size)) x w4.heap.size 69 6 (.slice A6 k c6) k ((rows[j].asks.take k).map GAsk.toD)) ∧ Hid ((Value.slice A6 k c6).ownBlock ≠ some n3) ∧ w4.heap.size ≤ n3)
      case first =>
       go_region_held3 (fun x => x.cell? ⟨b, off + j * 2, none⟩ = some (.int .i64 rows[j].alt) ∧ x.cell? ⟨b, off + j * 2 + 1, none⟩ = some (.slice (some ⟨b2, off2, none⟩) rows[j].asks.length d1)) (first | exact HF5.out _ (Below.refl _ _) | exact HF5.out _ (Below.refl _ _).drew | exact HF5.out _ EA.out | exact HF5.out _ EB.out | exact HF5.out _ EC.out | exact HF5.out _ (((Below.refl _ _).alloc (Nat.le_refl _) _).drew) | exact HF5.out _ E6.out | exact HF5.out _ (E6.out.alloc E6.out.size _) | exact HF5.out _ ((((E6.out).setCell (by simp) _)).setCell (by simp) _)) (first
         | (refine step_append_X _ rfl (.tmp 53) (.tmp 60) 64 rfl 69 zAsk 6 96 Tryz.underlying64 (by kernel_rfl) rfl (by omega) w4.heap.size (.slice (some ⟨w4.heap.size, 0, none⟩) 0 0) 0 [] GA5.out (some ⟨b2, off2, none⟩) d1 k _ (by simp; omega) (HT5.out (Xw1 (.slice A' m c') (Xs S w.heap.size)) _ _ EA.out (by omega) (fun q hq => ⟨fun e => by have := (HOW.out _ e).1; have := HSL.out q hq; omega, .inl hq⟩)) EA.out.size (by unfold maxLen; omega) (by omega) rfl rfl ?_
            intro A6 c6 w6 G6 hGr6
            have HG6 := LH (show Grx (Xw1 (.slice A' m c') (Xs S w.heap.size)) w6 w4.heap.size 69 6 (.slice A6 k c6) k ((rows[j].asks.take k).map GAsk.toD) by simpa using G6)
            have HE6 := LH (show Value.slice A6 (0 + k) c6 = .slice A6 k c6 by rw [Nat.zero_add])
            have E6 := LH (EA.out.trans (hGr6.below EA.out.size (fun g hg => Nat.le_trans (by omega) (own_ge hg))))
            clear G6 hGr6
            rw [HE6.out])
         | (refine step_append_X _ rfl (.tmp 53) (.tmp 60) 64 rfl 69 zAsk 6 96 Tryz.underlying64 (by kernel_rfl) rfl (by omega) w4.heap.size (.slice (some ⟨w4.heap.size, 0, none⟩) 0 0) 0 [] GB5.out (some ⟨b2, off2, none⟩) d1 k _ (by simp; omega) (HT5.out (Xn (w4.heap.size + 1) (.slice A' m c') (Xs S w.heap.size)) _ _ EB.out (by omega) (fun q hq => ⟨by have := HSL.out q hq; omega, fun e => by have := (HOW.out _ e).1; have := HSL.out q hq; omega, .inl hq⟩)) EB.out.size (by unfold maxLen; omega) (by omega) rfl rfl ?_
            intro A6 c6 w6 G6 hGr6
            have HG6 := LH (show Grx (Xn (w4.heap.size + 1) (.slice A' m c') (Xs S w.heap.size)) w6 w4.heap.size 69 6 (.slice A6 k c6) k ((rows[j].asks.take k).map GAsk.toD) by simpa using G6)
            have HE6 := LH (show Value.slice A6 (0 + k) c6 = .slice A6 k c6 by rw [Nat.zero_add])
            have E6 := LH (EB.out.trans (hGr6.below EB.out.size (fun g hg => Nat.le_trans (by omega) (own_ge hg))))
            have RN6 := LH (hGr6.row RB5.out NB5.out)
            have NN6 := LH (show (Value.slice A6 k c6).ownBlock ≠ some (w4.heap.size + 1) by rw [← HE6.out]; exact hGr6.ne NB5.out RB5.out.lt)
            have hcn6 := fun i => RN6.out.cell i
            have hfn6 := fun i => RN6.out.frozen i
            clear G6 hGr6
            rw [HE6.out])
         | (refine step_append_X _ rfl (.tmp 53) (.tmp 60) 64 rfl 69 zAsk 6 96 Tryz.underlying64 (by kernel_rfl) rfl (by omega) w4.heap.size (.slice (some ⟨w4.heap.size + 1, 0, none⟩) 0 0) 0 [] GC5.out (some ⟨b2, off2, none⟩) d1 k _ (by simp; omega) (HT5.out (Xn w4.heap.size (.slice A' m c') (Xs S w.heap.size)) _ _ EC.out (by omega) (fun q hq => ⟨by have := HSL.out q hq; omega, fun e => by have := (HOW.out _ e).1; have := HSL.out q hq; omega, .inl hq⟩)) EC.out.size (by unfold maxLen; omega) (by omega) rfl rfl ?_
            intro A6 c6 w6 G6 hGr6
            have HG6 := LH (show Grx (Xn w4.heap.size (.slice A' m c') (Xs S w.heap.size)) w6 w4.heap.size 69 6 (.slice A6 k c6) k ((rows[j].asks.take k).map GAsk.toD) by simpa using G6)
            have HE6 := LH (show Value.slice A6 (0 + k) c6 = .slice A6 k c6 by rw [Nat.zero_add])
            have E6 := LH (EC.out.trans (hGr6.below EC.out.size (fun g hg => Nat.le_trans (by omega) (own_ge hg))))
            have RN6 := LH (hGr6.row RC5.out NC5.out)
            have NN6 := LH (show (Value.slice A6 k c6).ownBlock ≠ some w4.heap.size by rw [← HE6.out]; exact hGr6.ne NC5.out RC5.out.lt)
            have hcn6 := fun i => RN6.out.cell i
            have hfn6 := fun i => RN6.out.frozen i
            clear G6 hGr6
            rw [HE6.out])
         | fail)
       all_goals (first
         | (obtain ⟨n3, en⟩ : ∃ n3, n3 = w6.heap.size := ⟨_, rfl⟩
            obtain ⟨w7, e7⟩ : ∃ w7, w7 = w6.alloc (.cells #[.int .i64 rows[j].alt, .slice A6 k c6] 66) := ⟨_, rfl⟩
            rw [← e7]
            rw [← en]
            have hn4 : w4.heap.size ≤ n3 := by rw [en]; exact E6.out.size
            have H7 := LH (show (Below w4.heap.size w4 w7 ∧ Row w7 n3 66 #[.int .i64 rows[j].alt, .slice A6 k c6] ∧ Grx (Xn n3 (.slice A' m c') (Xs S w.heap.size)) w7 w4.heap.size 69 6 (.slice A6 k c6) k ((rows[j].asks.take k).map GAsk.toD) ∧ (Value.slice A6 k c6).ownBlock ≠ some n3 ∧ w4.heap.size ≤ n3) by
              rw [e7, en]
              exact ⟨E6.out.alloc E6.out.size _, Row.new w6 _ _, HG6.out.toN ((Below.refl _ _).alloc (Nat.le_refl _) _), fun e => by have := (HG6.out.own _ e).2; omega, E6.out.size⟩)
            clear en e7)
         | (obtain ⟨n3, en⟩ : ∃ n3, n3 = w4.heap.size + 1 := ⟨_, rfl⟩
            have hn4 : w4.heap.size ≤ n3 := by omega
            have HG7 := LH (show Grx (Xn n3 (.slice A' m c') (Xs S w.heap.size)) w6 w4.heap.size 69 6 (.slice A6 k c6) k ((rows[j].asks.take k).map GAsk.toD) by rw [en]; exact HG6.out)
            rw [← en] at RN6 NN6 ⊢
            obtain ⟨w7, e7⟩ : ∃ w7, w7 = (w6.setCell ⟨n3, 0, none⟩ (.int .i64 rows[j].alt)).setCell ⟨n3, 1, none⟩ (.slice A6 k c6) := ⟨_, rfl⟩
            rw [← e7]
            have H7 := LH (show (Below w4.heap.size w4 w7 ∧ Row w7 n3 66 #[.int .i64 rows[j].alt, .slice A6 k c6] ∧ Grx (Xn n3 (.slice A' m c') (Xs S w.heap.size)) w7 w4.heap.size 69 6 (.slice A6 k c6) k ((rows[j].asks.take k).map GAsk.toD) ∧ (Value.slice A6 k c6).ownBlock ≠ some n3 ∧ w4.heap.size ≤ n3) by
              rw [e7]
              exact ⟨(E6.out.setCell (p := ⟨n3, 0, none⟩) hn4 _).setCell (p := ⟨n3, 1, none⟩) hn4 _, (RN6.out.set 0 _).set 1 _, HG7.out.keepN NN6.out (by simp [World.setCell]) (fun q hq hq2 => (Below.heap_setCell _ ⟨n3, 1, none⟩ _ q hq2).trans (Below.heap_setCell _ ⟨n3, 0, none⟩ _ q hq2)), NN6.out, hn4⟩)
            clear en e7 RN6 NN6 hcn6 hfn6 HG7)
         | (obtain ⟨n3, en⟩ : ∃ n3, n3 = w4.heap.size := ⟨_, rfl⟩
            have hn4 : w4.heap.size ≤ n3 := by omega
            have HG7 := LH (show Grx (Xn n3 (.slice A' m c') (Xs S w.heap.size)) w6 w4.heap.size 69 6 (.slice A6 k c6) k ((rows[j].asks.take k).map GAsk.toD) by rw [en]; exact HG6.out)
            rw [← en] at RN6 NN6 ⊢
            obtain ⟨w7, e7⟩ : ∃ w7, w7 = (w6.setCell ⟨n3, 0, none⟩ (.int .i64 rows[j].alt)).setCell ⟨n3, 1, none⟩ (.slice A6 k c6) := ⟨_, rfl⟩
            rw [← e7]
            have H7 := LH (show (Below w4.heap.size w4 w7 ∧ Row w7 n3 66 #[.int .i64 rows[j].alt, .slice A6 k c6] ∧ Grx (Xn n3 (.slice A' m c') (Xs S w.heap.size)) w7 w4.heap.size 69 6 (.slice A6 k c6) k ((rows[j].asks.take k).map GAsk.toD) ∧ (Value.slice A6 k c6).ownBlock ≠ some n3 ∧ w4.heap.size ≤ n3) by
              rw [e7]
              exact ⟨(E6.out.setCell (p := ⟨n3, 0, none⟩) hn4 _).setCell (p := ⟨n3, 1, none⟩) hn4 _, (RN6.out.set 0 _).set 1 _, HG7.out.keepN NN6.out (by simp [World.setCell]) (fun q hq hq2 => (Below.heap_setCell _ ⟨n3, 1, none⟩ _ q hq2).trans (Below.heap_setCell _ ⟨n3, 0, none⟩ _ q hq2)), NN6.out, hn4⟩)
            clear en e7 RN6 NN6 hcn6 hfn6 HG7))
       all_goals
        go_wp2_with fail
        go_meet
        exact ⟨n3, A6, c6, rfl, LH H7.out.1, LH H7.out.2.1, LH H7.out.2.2.1, LH H7.out.2.2.2.1, hn4⟩
      case rest =>
       have P1 := LH p1
       clear HH p0 p1 HT5 HF5 GA5 GB5 GC5 RB5 RC5 NB5 NC5 EA EB EC oe on hca4 hcq4
       obtain ⟨n3, A6, c6, rfl, C1, C2, C3, C4, hn4⟩ := hcut
       have RQ7 := LH (RQ4.out.below C1.out RQ4.out.lt)
       have R7 := LH (R4.out.below C1.out R4.out.lt)
       have hn7 := C2.out.lt
       go_wp2_with fail
       go_loopw [10] (fun i x => ∃ (t m' : Nat) (A7 : Option Addr) (c7 : Nat), t ≤ rows[j].asks[k].pat.kids.length ∧ i = .int .i64 t ∧ m' = k + t ∧ Hid (Grx (Xn n3 (.slice A' m c') (Xs S w.heap.size)) x w4.heap.size 69 6 (.slice A7 m' c7) m' ((rows[j].asks.take k ++ kidsA a.path 0 (rows[j].asks[k].pat.kids.take t)).map GAsk.toD)) ∧ Hid ((Value.slice A7 m' c7).ownBlock ≠ some n3) ∧ Hid (Row x n3 66 #[.int .i64 rows[j].alt, .slice A7 m' c7]) ∧ Hid (Row x w2.heap.size 39 #[.int .i64 rows[j].asks[k].pat.op, .int .i64 rows[j].asks[k].pat.n, .string rows[j].asks[k].pat.s, .string rows[j].asks[k].pat.t, .slice D2 rows[j].asks[k].pat.kids.length f2]) ∧ Hid (Row x w.heap.size 69 #[.slice A1 a.path.length c1, .int .i64 a.pat.op, .int .i64 a.pat.n, .string a.pat.s, .string a.pat.t, .slice A2 a.pat.kids.length c2]) ∧ n3 < x.heap.size ∧ Hid (Below w4.heap.size w4 x)) (fun i _ => rows[j].asks[k].pat.kids.length - (intOf i).toNat)
       case atStart => exact ⟨0, k, A6, c6, by omega, by go_num, by omega, LH (by simpa [kidsA] using C3.out), C4, C2, RQ7, R7, hn7, C1⟩
       case round =>
        obtain ⟨t, m', A7, c7, ht, rfl, hm7, HG7, HN7, HRN, HRQ, HRA, hnx, HBX⟩ := hrel
        have hzx := HBX.out.size
        have hm8 : m' ≤ 2097152 := by omega
        have HM7 := LH hm7
        clear hm7
        have hcn := fun i => HRN.out.cell i
        have hcq := fun i => HRQ.out.cell i
        have hck := fun i => HRA.out.cell i
        by_cases hlk : t < rows[j].asks[k].pat.kids.length
        ·
         have dk : decide ((t : Int) < (rows[j].asks[k].pat.kids.length : Int)) = true := decide_eq_true (by omega)
         go_wp2_with fail
         have BW := LH (B4.out.trans (HBX.out.mono hz4))
         have EX := LH (E4.out.trans (HBX.out.mono E4.out.size))
         obtain ⟨bk, ofk, A9, c9, rfl, hSbk, t0, t1, t2, t3, t4, hkat⟩ := GNode.elem (HATK.out.2.2.2.2.2.keep (w' := wr) (S' := S) fun q hq => ⟨hq, EX.out.block q (Nat.lt_of_lt_of_le (HSL.out q hq) (Nat.le_trans (Nat.le_succ _) hs2))⟩) t hlk
         have hSbk' : bk < w4.heap.size := Nat.lt_of_lt_of_le (HSL.out _ hSbk) hz4
         have hwo := Nat.le_trans E2.out.size E4.out.size
         obtain ⟨p8, hp8⟩ : ∃ p8, a.path ++ [(t : Int)] = p8 := ⟨_, rfl⟩
         have hd8 := specDown a.path A1 c1 (t : Int) wr.drew (by omega) (wf_i64 (by omega) (by omega)) ((HA.out.1.below BW.out (Nat.le_refl _)).keep fun q hq => ⟨Nat.lt_of_lt_of_le hq BW.out.size, rfl⟩)
         rw [hp8] at hd8
         have HD8 := LH hd8
         obtain ⟨kt, hkt⟩ : ∃ kt, rows[j].asks[k].pat.kids[t] = kt := ⟨_, rfl⟩
         rw [hkt] at t0 t1 t2 t3 t4 hkat
         have HKT := LH (show kidsA a.path 0 (rows[j].asks[k].pat.kids.take (t + 1)) = kidsA a.path 0 (rows[j].asks[k].pat.kids.take t) ++ [⟨p8, kt⟩] by rw [kidsA_take a.path _ t hlk, hp8, hkt])
         have HKA := LH hkat
         have hr4 := R4.out.lt
         have hq4 := RQ4.out.lt
         have HF14 := LH (fun (x : World) (hx : ∀ q, q < w4.heap.size → x.heap[q]? = wr.heap[q]?) (hx3 : x.cell? ⟨n3, 1, none⟩ = some (.slice A7 m' c7)) => show (∀ i, x.cell? ⟨w.heap.size, i, none⟩ = (#[.slice A1 a.path.length c1, .int .i64 a.pat.op, .int .i64 a.pat.n, .string a.pat.s, .string a.pat.t, .slice A2 a.pat.kids.length c2] : Array Value)[i]?) ∧ (∀ i, x.cell? ⟨w2.heap.size, i, none⟩ = (#[.int .i64 rows[j].asks[k].pat.op, .int .i64 rows[j].asks[k].pat.n, .string rows[j].asks[k].pat.s, .string rows[j].asks[k].pat.t, .slice (some ⟨bk, ofk, none⟩) rows[j].asks[k].pat.kids.length f2] : Array Value)[i]?) ∧ x.cell? ⟨bk, ofk + t * 5, none⟩ = some (.int .i64 kt.op) ∧ x.cell? ⟨bk, ofk + t * 5 + 1, none⟩ = some (.int .i64 kt.n) ∧ x.cell? ⟨bk, ofk + t * 5 + 2, none⟩ = some (.string kt.s) ∧ x.cell? ⟨bk, ofk + t * 5 + 3, none⟩ = some (.string kt.t) ∧ x.cell? ⟨bk, ofk + t * 5 + 4, none⟩ = some (.slice A9 kt.kids.length c9) ∧ x.cell? ⟨n3, 1, none⟩ = some (.slice A7 m' c7) from
           ⟨fun i => (World.cell?_of_block (hx _ hr4)).trans (hck i), fun i => (World.cell?_of_block (hx _ hq4)).trans (hcq i), (World.cell?_of_block (hx _ hSbk')).trans t0, (World.cell?_of_block (hx _ hSbk')).trans t1, (World.cell?_of_block (hx _ hSbk')).trans t2, (World.cell?_of_block (hx _ hSbk')).trans t3, (World.cell?_of_block (hx _ hSbk')).trans t4, hx3⟩)
         have K0 := LH (show ∀ q, q < w4.heap.size → wr.heap[q]? = wr.heap[q]? from fun _ _ => rfl)
         have K1 := LH (show ∀ q, q < w4.heap.size → wr.drew.heap[q]? = wr.heap[q]? from fun _ _ => rfl)
         have hfn := fun i => HRN.out.frozen i
         clear hck hcq t0 t1 t2 t3 t4 hkat hd8 hp8 hkt hSbk
         refine wp_region_T (fun x => (∀ i, x.cell? ⟨w.heap.size, i, none⟩ = (#[.slice A1 a.path.length c1, .int .i64 a.pat.op, .int .i64 a.pat.n, .string a.pat.s, .string a.pat.t, .slice A2 a.pat.kids.length c2] : Array Value)[i]?) ∧ (∀ i, x.cell? ⟨w2.heap.size, i, none⟩ = (#[.int .i64 rows[j].asks[k].pat.op, .int .i64 rows[j].asks[k].pat.n, .string rows[j].asks[k].pat.s, .string rows[j].asks[k].pat.t, .slice (some ⟨bk, ofk, none⟩) rows[j].asks[k].pat.kids.length f2] : Array Value)[i]?) ∧ x.cell? ⟨bk, ofk + t * 5, none⟩ = some (.int .i64 kt.op) ∧ x.cell? ⟨bk, ofk + t * 5 + 1, none⟩ = some (.int .i64 kt.n) ∧ x.cell? ⟨bk, ofk + t * 5 + 2, none⟩ = some (.string kt.s) ∧ x.cell? ⟨bk, ofk + t * 5 + 3, none⟩ = some (.string kt.t) ∧ x.cell? ⟨bk, ofk + t * 5 + 4, none⟩ = some (.slice A9 kt.kids.length c9) ∧ x.cell? ⟨n3, 1, none⟩ = some (.slice A7 m' c7)) 15 (by kernel_rfl) ?_
         have hS1 := HF14.out _ K1.out (hcn 1)
         refine wpAnyT_take (i := 0) (oi := _) (v := ?vv0) rfl (by kernel_rfl) (by kernel_rfl) (by kernel_rfl) (by kernel_rfl) (fun _ _ _ h => h) (Or.inl ⟨by rfl, ?hy0⟩) hS1 ?_
         case hy0 => (intro x hSx; (try dsimp only at hSx); go_simp; (try with_reducible rfl))
         try simp only [List.getElem_toArray, List.getElem_cons_succ, List.getElem_cons_zero, Act.put, List.setIfInBounds_toArray, List.set_cons_zero, List.set_cons_succ]
         refine wpAnyT_take (i := 1) (oi := _) (v := ?vv1) rfl (by kernel_rfl) (by kernel_rfl) (by kernel_rfl) (by kernel_rfl) (fun _ _ _ h => h) (Or.inl ⟨by rfl, ?hy1⟩) hS1 ?_
         case hy1 => (intro x hSx; (try dsimp only at hSx); go_simp; (try with_reducible rfl))
         try simp only [List.getElem_toArray, List.getElem_cons_succ, List.getElem_cons_zero, Act.put, List.setIfInBounds_toArray, List.set_cons_zero, List.set_cons_succ]
         refine wpAnyT_take (i := 2) (oi := _) (v := ?vv2) rfl (by kernel_rfl) (by kernel_rfl) (by kernel_rfl) (by kernel_rfl) (fun _ _ _ h => h) (Or.inl ⟨by rfl, ?hy2⟩) hS1 ?_
         case hy2 => (intro x hSx; (try dsimp only at hSx); go_simp; (try with_reducible rfl))
         try simp only [List.getElem_toArray, List.getElem_cons_succ, List.getElem_cons_zero, Act.put, List.setIfInBounds_toArray, List.set_cons_zero, List.set_cons_succ]
         refine wpAnyT_take (i := 3) (oi := _) (v := ?vv3) rfl (by kernel_rfl) (by kernel_rfl) (by kernel_rfl) (by kernel_rfl) (fun _ _ _ h => h) (Or.inl ⟨by rfl, ?hy3⟩) hS1 ?_
         case hy3 => (intro x hSx; (try dsimp only at hSx); go_simp; (try with_reducible rfl))
         try simp only [List.getElem_toArray, List.getElem_cons_succ, List.getElem_cons_zero, Act.put, List.setIfInBounds_toArray, List.set_cons_zero, List.set_cons_succ]
         refine wpAnyT_take (i := 4) (oi := _) (v := ?vv4) rfl (by kernel_rfl) (by kernel_rfl) (by kernel_rfl) (by kernel_rfl) (fun _ _ _ h => h) (Or.inl ⟨by rfl, ?hy4⟩) hS1 ?_
         case hy4 => (intro x hSx; (try dsimp only at hSx); go_simp; (try with_reducible rfl))
         try simp only [List.getElem_toArray, List.getElem_cons_succ, List.getElem_cons_zero, Act.put, List.setIfInBounds_toArray, List.set_cons_zero, List.set_cons_succ]
         refine wpAnyT_take (i := 6) (oi := _) (v := ?vv6) rfl (by kernel_rfl) (by kernel_rfl) (by kernel_rfl) (by kernel_rfl) (fun _ _ _ h => h) (Or.inl ⟨by rfl, ?hy6⟩) hS1 ?_
         case hy6 => (intro x hSx; (try dsimp only at hSx); go_simp; (try with_reducible rfl))
         try simp only [List.getElem_toArray, List.getElem_cons_succ, List.getElem_cons_zero, Act.put, List.setIfInBounds_toArray, List.set_cons_zero, List.set_cons_succ]
         refine wpAnyT_take (i := 7) (oi := _) (v := ?vv7) rfl (by kernel_rfl) (by kernel_rfl) (by kernel_rfl) (by kernel_rfl) (fun _ _ _ h => h) (Or.inl ⟨by rfl, ?hy7⟩) hS1 ?_
         case hy7 => (intro x hSx; (try dsimp only at hSx); go_simp; (try with_reducible rfl))
         try simp only [List.getElem_toArray, List.getElem_cons_succ, List.getElem_cons_zero, Act.put, List.setIfInBounds_toArray, List.set_cons_zero, List.set_cons_succ]
         refine wpAnyT_take (i := 8) (oi := _) (v := ?vv8) rfl (by kernel_rfl) (by kernel_rfl) (by kernel_rfl) (by kernel_rfl) (fun _ _ _ h => h) (Or.inl ⟨by rfl, ?hy8⟩) hS1 ?_
         case hy8 => (intro x hSx; (try dsimp only at hSx); go_simp; (try with_reducible rfl))
         try simp only [List.getElem_toArray, List.getElem_cons_succ, List.getElem_cons_zero, Act.put, List.setIfInBounds_toArray, List.set_cons_zero, List.set_cons_succ]
         refine wpAnyT_take (i := 9) (oi := _) (v := ?vv9) rfl (by kernel_rfl) (by kernel_rfl) (by kernel_rfl) (by kernel_rfl) (fun _ _ _ h => h) (Or.inl ⟨by rfl, ?hy9⟩) hS1 ?_
         case hy9 => (intro x hSx; (try dsimp only at hSx); go_simp; (try with_reducible rfl))
         try simp only [List.getElem_toArray, List.getElem_cons_succ, List.getElem_cons_zero, Act.put, List.setIfInBounds_toArray, List.set_cons_zero, List.set_cons_succ]
         refine wpAnyT_take (i := 10) (oi := _) (v := ?vv10) rfl (by kernel_rfl) (by kernel_rfl) (by kernel_rfl) (by kernel_rfl) (fun _ _ _ h => h) (Or.inl ⟨by rfl, ?hy10⟩) hS1 ?_
         case hy10 => (intro x hSx; (try dsimp only at hSx); go_simp; (try with_reducible rfl))
         try simp only [List.getElem_toArray, List.getElem_cons_succ, List.getElem_cons_zero, Act.put, List.setIfInBounds_toArray, List.set_cons_zero, List.set_cons_succ]
         refine wpAnyT_step (i := 5) (by kernel_rfl) rfl (fun K hK => ?_)
         try simp only [List.getElem_toArray, List.getElem_cons_succ, List.getElem_cons_zero]
         go_simp
         go_at_call 70
         refine HD8.out.mono ?_
         rintro e w8 ⟨A8, c8, rfl, hs8, hb8⟩
         have E8 := LH (((Below.refl wr.heap.size wr).drew).trans hb8)
         have hn8 := Nat.lt_of_lt_of_le hnx E8.out.size
         have hz8 := E8.out.size
         have R8 := LH (HRN.out.below E8.out HRN.out.lt)
         have hcn8 := fun i => R8.out.cell i
         have hfn8 := fun i => R8.out.frozen i
         have hcn8a := fun (o : Obj) (i : Nat) => (HRN.out.below ((E8.out).alloc E8.out.size o) HRN.out.lt).cell i
         have K8 := LH (fun q (hq : q < w4.heap.size) => E8.out.block q (Nat.lt_of_lt_of_le hq hzx))
         obtain ⟨o8, ho8⟩ : ∃ o8, o8 = Obj.cells #[.slice A8 p8.length c8, .int .i64 kt.op, .int .i64 kt.n, .string kt.s, .string kt.t, .slice A9 kt.kids.length c9] 69 := ⟨_, rfl⟩
         have E8a := LH (show Below wr.heap.size wr (w8.alloc o8) from E8.out.alloc hz8 _)
         have G8 := LH (HG7.out.below E8a.out)
         have HO8 := LH (fun g (hg : (Value.slice A7 m' c7).ownBlock = some g) => HG7.out.own g hg)
         have T8 := LH (show Sl (w8.alloc o8) (fun b => b < (w8.alloc o8).heap.size ∧ (Value.slice A7 m' c7).ownBlock ≠ some b ∧ Xn n3 (.slice A' m c') (Xs S w.heap.size) b) 6 (some ⟨w8.heap.size, 0, none⟩) 1 [(⟨p8, kt⟩ : GAsk).toD] from
         oneAsk (T := 69) (r := ⟨p8, kt⟩) (.slice A7 m' c7) (fun g hg => Nat.lt_of_lt_of_le (HO8.out g hg).2 hz8) ⟨by omega, fun e => by have := (HOW.out _ e).2; omega, .inr (by omega)⟩ (by rw [ho8]; exact Row.new w8 _ _) ((Below.refl _ _).alloc (Nat.le_refl _) _) ⟨hs8.keep fun q hq => ⟨⟨hq.2, fun e => by have := (HO8.out _ e).2; have h1 : wr.heap.size ≤ q := hq.1; omega, by have h1 : wr.heap.size ≤ q := hq.1; omega, fun e => by have := (HOW.out _ e).2; have h1 : wr.heap.size ≤ q := hq.1; omega, .inr (by have h1 : wr.heap.size ≤ q := hq.1; omega)⟩, rfl⟩, HKA.out.keep fun q hq => ⟨⟨by have h1 := HSL.out q hq; omega, fun e => by have := (HO8.out _ e).1; have h1 := HSL.out q hq; omega, by have h1 := HSL.out q hq; omega, fun e => by have := (HOW.out _ e).1; have h1 := HSL.out q hq; omega, .inl hq⟩, K8.out q (Nat.lt_of_lt_of_le (HSL.out q hq) hz4)⟩⟩)
         have K8a := LH (fun q (hq : q < w4.heap.size) => E8a.out.block q (Nat.lt_of_lt_of_le hq hzx))
         rw [ho8] at E8a G8 T8 K8a
         clear ho8 hb8 hs8
         refine hK.out _ _ (HF14.out _ K8.out (hcn8 1)) (fun hS8 => ?_)
         clear hK K
         try simp only [List.getElem_toArray, List.getElem_cons_succ, List.getElem_cons_zero, Act.put, List.setIfInBounds_toArray, List.set_cons_zero, List.set_cons_succ]
         clear hS1
         refine wpAnyT_take (i := 11) (oi := _) (v := ?vv11) rfl (by kernel_rfl) (by kernel_rfl) (by kernel_rfl) (by kernel_rfl) (fun _ _ _ h => h) (Or.inl ⟨by rfl, ?hy11⟩) hS8 ?_
         case hy11 => (intro x hSx; (try dsimp only at hSx); go_simp; (try with_reducible rfl))
         try simp only [List.getElem_toArray, List.getElem_cons_succ, List.getElem_cons_zero, Act.put, List.setIfInBounds_toArray, List.set_cons_zero, List.set_cons_succ]
         refine wpAnyT_step (i := 12) (by kernel_rfl) rfl (fun K hK => ?_)
         try simp only [List.getElem_toArray, List.getElem_cons_succ, List.getElem_cons_zero]
         go_simp
         refine hK.out _ _ (HF14.out _ K8a.out (hcn8a _ 1)) (fun hS8a => ?_)
         clear hK K
         try simp only [List.getElem_toArray, List.getElem_cons_succ, List.getElem_cons_zero, Act.put, List.setIfInBounds_toArray, List.set_cons_zero, List.set_cons_succ]
         clear hS8
         refine wpAnyT_step (i := 13) (by kernel_rfl) rfl (fun K hK => ?_)
         refine step_append_X _ rfl (.tmp 71) (.tmp 82) 64 rfl 69 zAsk 6 96 Tryz.underlying64 (by kernel_rfl) rfl (by omega) w4.heap.size (.slice A7 m' c7) m' _ G8.out (some ⟨w8.heap.size, 0, none⟩) 1 1 _ rfl T8.out (Nat.le_trans hzx E8a.out.size) (by unfold maxLen; omega) (by omega) rfl rfl ?_
         intro A10 c10 w10 G10 hGr10
         have HG10 := LH G10
         have HN10 := LH (hGr10.ne HN7.out (Nat.lt_of_lt_of_le hnx E8a.out.size))
         have hn10 := Nat.lt_of_lt_of_le (Nat.lt_of_lt_of_le hnx E8a.out.size) hGr10.size
         have B10 := LH (HBX.out.trans ((E8a.out.mono hzx).trans (hGr10.below (B := w4.heap.size) (Nat.le_trans hzx E8a.out.size) (fun g hg => (HO8.out g hg).1))))
         have R10 := LH (hGr10.row (HRN.out.below E8a.out HRN.out.lt) HN7.out)
         have RQ10 := LH (hGr10.row (HRQ.out.below E8a.out HRQ.out.lt) (fun e => by have := (HO8.out _ e).1; omega))
         have RA10 := LH (hGr10.row (HRA.out.below E8a.out HRA.out.lt) (fun e => by have := (HO8.out _ e).1; omega))
         have hcn10 := fun i => R10.out.cell i
         have hfn10 := fun i => R10.out.frozen i
         have K9 := LH (fun q (hq : q < w4.heap.size) => (B10.out.block q hq).trans (HBX.out.block q hq).symm)
         have K9s := LH (fun q (hq : q < w4.heap.size) => (Below.heap_setCell w10 ⟨n3, 1, none⟩ (.slice A10 (m' + 1) c10) q (by simp <;> omega)).trans (K9.out q hq))
         clear G10 hGr10
         refine hK.out _ _ (HF14.out _ K9.out (hcn10 1)) (fun hS10 => ?_)
         clear hK K
         try simp only [List.getElem_toArray, List.getElem_cons_succ, List.getElem_cons_zero, Act.put, List.setIfInBounds_toArray, List.set_cons_zero, List.set_cons_succ]
         clear hS8a
         refine wpAnyT_take (i := 14) (oi := _) (v := ?vv14) rfl (by kernel_rfl) (by kernel_rfl) (by kernel_rfl) (by kernel_rfl) (fun _ _ _ h => h) (Or.inl ⟨by rfl, ?hy14⟩) hS10 ?_
         case hy14 => (intro x hSx; (try dsimp only at hSx); go_simp; (try with_reducible rfl))
         try simp only [List.getElem_toArray, List.getElem_cons_succ, List.getElem_cons_zero, Act.put, List.setIfInBounds_toArray, List.set_cons_zero, List.set_cons_succ]
         refine wpAnyT_last (by kernel_rfl) (by kernel_rfl) rfl (fun K hK => ?_)
         try simp only [List.getElem_toArray, List.getElem_cons_succ, List.getElem_cons_zero]
         go_simp
         refine hK.out _ _ ?_
         clear hK K
         try simp only [List.getElem_toArray, List.getElem_cons_succ, List.getElem_cons_zero, Act.put, List.setIfInBounds_toArray, List.set_cons_zero, List.set_cons_succ]
         obtain ⟨wz, ez⟩ : ∃ wz, wz = w10.setCell ⟨n3, 1, none⟩ (.slice A10 (m' + 1) c10) := ⟨_, rfl⟩
         rw [← ez]
         have FIN := LH (show Below w4.heap.size w4 wz ∧ Hid (Grx (Xn n3 (.slice A' m c') (Xs S w.heap.size)) wz w4.heap.size 69 6 (.slice A10 (m' + 1) c10) (m' + 1) ((rows[j].asks.take k ++ kidsA a.path 0 (rows[j].asks[k].pat.kids.take (t + 1))).map GAsk.toD)) ∧ Hid (Row wz n3 66 #[.int .i64 rows[j].alt, .slice A10 (m' + 1) c10]) ∧ Hid (Row wz w2.heap.size 39 #[.int .i64 rows[j].asks[k].pat.op, .int .i64 rows[j].asks[k].pat.n, .string rows[j].asks[k].pat.s, .string rows[j].asks[k].pat.t, .slice (some ⟨bk, ofk, none⟩) rows[j].asks[k].pat.kids.length f2]) ∧ Hid (Row wz w.heap.size 69 #[.slice A1 a.path.length c1, .int .i64 a.pat.op, .int .i64 a.pat.n, .string a.pat.s, .string a.pat.t, .slice A2 a.pat.kids.length c2]) ∧ n3 < wz.heap.size by
           rw [ez]
           refine ⟨B10.out.setCell (p := ⟨n3, 1, none⟩) hn4 _, LH ?_, LH (R10.out.set 1 _), LH (RQ10.out.far (p := ⟨n3, 1, none⟩) (by simp <;> omega) _), LH (RA10.out.far (p := ⟨n3, 1, none⟩) (by simp <;> omega) _), by simp [World.setCell]; omega⟩
           rw [HKT.out, ← List.append_assoc, List.map_append]
           exact HG10.out.keepN HN10.out (by simp [World.setCell]) (fun q hq hq2 => Below.heap_setCell _ ⟨n3, 1, none⟩ _ q hq2))
         clear ez hcn10 hfn10 hcn8 hfn8
         go_wp2_with fail
         go_roundw
         case rel => exact ⟨t + 1, m' + 1, A10, c10, by omega, by go_num, by have := HM7.out; omega, FIN.out.2.1, HN10, FIN.out.2.2.1, FIN.out.2.2.2.1, FIN.out.2.2.2.2.1, FIN.out.2.2.2.2.2, LH FIN.out.1⟩
         case measure => simp [intOf]; omega
        ·
         have dk : decide ((t : Int) < (rows[j].asks[k].pat.kids.length : Int)) = false := decide_eq_false (by omega)
         have HTK := LH (show rows[j].asks[k].pat.kids.take t = rows[j].asks[k].pat.kids by rw [show t = rows[j].asks[k].pat.kids.length by omega, List.take_length])
         have BW := LH (B4.out.trans (HBX.out.mono hz4))
         have hwo := Nat.le_trans E2.out.size E4.out.size
         have HOW7 := LH (fun g (hg : (Value.slice A7 m' c7).ownBlock = some g) => HG7.out.own g hg)
         have T15 := LH (show Sl wr.drew (fun b => b < wr.drew.heap.size ∧ (Value.slice A7 m' c7).ownBlock ≠ some b ∧ Xn n3 (.slice A' m c') (Xs S w.heap.size) b) 6 (restAt b2 off2 6 (k + 1) d1) (d1 - (k + 1)) ((rows[j].asks.drop (k + 1)).map GAsk.toD) by
           rw [List.map_drop]
           exact (Sl.restAt HAT.out.2 (by rw [List.length_map]; omega)).keep fun q hq => ⟨⟨Nat.lt_of_lt_of_le (HSL.out q hq) BW.out.size, fun e => by have := (HOW7.out _ e).1; have h4 := HSL.out q hq; omega, by have h4 := HSL.out q hq; omega, fun e => by have := (HOW.out _ e).1; have h4 := HSL.out q hq; omega, .inl hq⟩, (HBX.out.block q (Nat.lt_of_lt_of_le (HSL.out q hq) hz4)).trans (HK4.out q (HSL.out q hq))⟩)
         have G15 := LH (HG7.out.below ((Below.refl wr.heap.size wr).drew))
         have HR15 := run_restAt (P := Tryz.prog) 64 69 6 Tryz.underlying64 (by kernel_rfl) b2 off2 rows[j].asks.length d1 (k + 1) ((k : Int) + 1) (by omega) (by omega) (by omega)
         have hwk : IntKind.i64.wrap ((k : Int) + 1) = (k : Int) + 1 := (IntWalk.i64_left _).trans (IntWalk.wrap64_in ((k : Int) + 1) (by omega))
         have hb15 : m' + (rows[j].asks.length - (k + 1)) ≤ 3145728 := Nat.add_le_add hm8 (Nat.le_trans (Nat.sub_le _ _) (Nat.le_trans hkl hkm))
         have hb16 : (m' + (rows[j].asks.length - (k + 1))) * 96 ≤ 140737488355328 := Nat.le_trans (Nat.mul_le_mul_right 96 hb15) (by decide)
         have hb17 : m' + (rows[j].asks.length - (k + 1)) ≤ maxLen := Nat.le_trans hb15 (by unfold maxLen; decide)
         have F15 := LH (fun (x : World) (hx : ∀ q, q < w4.heap.size → x.heap[q]? = wr.heap[q]?) (hx3 : x.cell? ⟨n3, 1, none⟩ = some (.slice A7 m' c7)) => show x.cell? ⟨b, off + j * 2 + 1, none⟩ = some (.slice (some ⟨b2, off2, none⟩) rows[j].asks.length d1) ∧ x.cell? ⟨n3, 1, none⟩ = some (.slice A7 m' c7) from
           ⟨(World.cell?_of_block (hx _ hb4)).trans ((HBX.out.cell (p := ⟨b, off + j * 2 + 1, none⟩) hb4).trans P1.out), hx3⟩)
         have K1 := LH (show ∀ q, q < w4.heap.size → wr.drew.heap[q]? = wr.heap[q]? from fun _ _ => rfl)
         obtain ⟨mm, hmm⟩ : ∃ mm, m' + (rows[j].asks.length - (k + 1)) = mm := ⟨_, rfl⟩
         have HMM := LH hmm
         clear hmm
         go_wp2_with fail
         refine wp_region_T (fun x => x.cell? ⟨b, off + j * 2 + 1, none⟩ = some (.slice (some ⟨b2, off2, none⟩) rows[j].asks.length d1) ∧ x.cell? ⟨n3, 1, none⟩ = some (.slice A7 m' c7)) 12 (by kernel_rfl) ?_
         have hS1 := F15.out _ K1.out (hcn 1)
         refine wpAnyT_take (i := 0) (oi := _) (v := ?zv0) rfl (by kernel_rfl) (by kernel_rfl) (by kernel_rfl) (by kernel_rfl) (fun _ _ _ h => h) (Or.inl ⟨by rfl, ?zh0⟩) hS1 ?_
         case zh0 => (intro x hSx; (try dsimp only at hSx); go_simp; (try with_reducible rfl))
         try simp only [List.getElem_toArray, List.getElem_cons_succ, List.getElem_cons_zero, Act.put, List.setIfInBounds_toArray, List.set_cons_zero, List.set_cons_succ]
         refine wpAnyT_take (i := 1) (oi := _) (v := ?zv1) rfl (by kernel_rfl) (by kernel_rfl) (by kernel_rfl) (by kernel_rfl) (fun _ _ _ h => h) (Or.inl ⟨by rfl, ?zh1⟩) hS1 ?_
         case zh1 => (intro x hSx; (try dsimp only at hSx); go_simp; (try with_reducible rfl))
         try simp only [List.getElem_toArray, List.getElem_cons_succ, List.getElem_cons_zero, Act.put, List.setIfInBounds_toArray, List.set_cons_zero, List.set_cons_succ]
         refine wpAnyT_take (i := 2) (oi := _) (v := ?zv2) rfl (by kernel_rfl) (by kernel_rfl) (by kernel_rfl) (by kernel_rfl) (fun _ _ _ h => h) (Or.inl ⟨by rfl, ?zh2⟩) hS1 ?_
         case zh2 => (intro x hSx; (try dsimp only at hSx); go_simp; (try with_reducible rfl))
         try simp only [List.getElem_toArray, List.getElem_cons_succ, List.getElem_cons_zero, Act.put, List.setIfInBounds_toArray, List.set_cons_zero, List.set_cons_succ]
         refine wpAnyT_take (i := 3) (oi := _) (v := ?zv3) rfl (by kernel_rfl) (by kernel_rfl) (by kernel_rfl) (by kernel_rfl) (fun _ _ _ h => h) (Or.inl ⟨by rfl, ?zh3⟩) hS1 ?_
         case zh3 => (intro x hSx; (try dsimp only at hSx); go_simp; (try with_reducible rfl))
         try simp only [List.getElem_toArray, List.getElem_cons_succ, List.getElem_cons_zero, Act.put, List.setIfInBounds_toArray, List.set_cons_zero, List.set_cons_succ]
         refine wpAnyT_take (i := 4) (oi := _) (v := ?zv4) rfl (by kernel_rfl) (by kernel_rfl) (by kernel_rfl) (by kernel_rfl) (fun _ _ _ h => h) (Or.inl ⟨by rfl, ?zh4⟩) hS1 ?_
         case zh4 => (intro x hSx; (try dsimp only at hSx); go_simp; (try with_reducible rfl))
         try simp only [List.getElem_toArray, List.getElem_cons_succ, List.getElem_cons_zero, Act.put, List.setIfInBounds_toArray, List.set_cons_zero, List.set_cons_succ]
         refine wpAnyT_take (i := 5) (oi := _) (v := ?zv5) rfl (by kernel_rfl) (by kernel_rfl) (by kernel_rfl) (by kernel_rfl) (fun _ _ _ h => h) (Or.inl ⟨by rfl, ?zh5⟩) hS1 ?_
         case zh5 => (intro x hSx; (try dsimp only at hSx); go_simp; (try with_reducible rfl))
         try simp only [List.getElem_toArray, List.getElem_cons_succ, List.getElem_cons_zero, Act.put, List.setIfInBounds_toArray, List.set_cons_zero, List.set_cons_succ]
         refine wpAnyT_take (i := 6) (oi := _) (v := ?zv6) rfl (by kernel_rfl) (by kernel_rfl) (by kernel_rfl) (by kernel_rfl) (fun _ _ _ h => h) (Or.inl ⟨by rfl, ?zh6⟩) hS1 ?_
         case zh6 => (intro x hSx; (try dsimp only at hSx); go_simp; (try with_reducible rfl))
         try simp only [List.getElem_toArray, List.getElem_cons_succ, List.getElem_cons_zero, Act.put, List.setIfInBounds_toArray, List.set_cons_zero, List.set_cons_succ]
         refine wpAnyT_take (i := 7) (oi := _) (v := ?zv7) rfl (by kernel_rfl) (by kernel_rfl) (by kernel_rfl) (by kernel_rfl) (fun _ _ _ h => h) (Or.inl ⟨by rfl, ?zh7⟩) hS1 ?_
         case zh7 => (intro x hSx; (try dsimp only at hSx); go_simp; (try with_reducible rfl))
         try simp only [List.getElem_toArray, List.getElem_cons_succ, List.getElem_cons_zero, Act.put, List.setIfInBounds_toArray, List.set_cons_zero, List.set_cons_succ]
         refine wpAnyT_take (i := 8) (oi := _) (v := ?zv8) rfl (by kernel_rfl) (by kernel_rfl) (by kernel_rfl) (by kernel_rfl) (fun _ _ _ h => h) (Or.inl ⟨by rfl, ?zh8⟩) hS1 ?_
         case zh8 => (intro x hSx; (try dsimp only at hSx); go_simp; (try with_reducible rfl))
         try simp only [List.getElem_toArray, List.getElem_cons_succ, List.getElem_cons_zero, Act.put, List.setIfInBounds_toArray, List.set_cons_zero, List.set_cons_succ]
         refine wpAnyT_take (i := 9) (oi := _) (v := ?zv9) rfl (by kernel_rfl) (by kernel_rfl) (by kernel_rfl) (by kernel_rfl) (fun _ _ _ h => h) (Or.inl ⟨by rfl, ?zh9⟩) hS1 ?_
         case zh9 => (intro x hSx; (try dsimp only at hSx); go_simp; (try with_reducible rfl))
         try simp only [List.getElem_toArray, List.getElem_cons_succ, List.getElem_cons_zero, Act.put, List.setIfInBounds_toArray, List.set_cons_zero, List.set_cons_succ]
         refine wpAnyT_step (i := 10) (by kernel_rfl) rfl (fun K hK => ?_)
         refine step_append_X _ rfl (.tmp 86) (.tmp 94) 64 rfl 69 zAsk 6 96 Tryz.underlying64 (by kernel_rfl) rfl (by omega) w4.heap.size (.slice A7 m' c7) m' _ G15.out (restAt b2 off2 6 (k + 1) d1) (d1 - (k + 1)) (rows[j].asks.length - (k + 1)) _ (by rw [List.length_map, List.length_drop]) T15.out hzx hb17 hb16 rfl rfl ?_
         intro A11 c11 w11 G11 hGr11
         rw [HMM.out] at G11 hGr11 ⊢
         have HG11 := LH G11
         have HN11 := LH (hGr11.ne HN7.out hnx)
         have hn11 := Nat.lt_of_lt_of_le hnx hGr11.size
         have hz11 := Nat.le_trans hzx hGr11.size
         have B11 := LH (HBX.out.trans (((Below.refl w4.heap.size wr).drew).trans (hGr11.below (B := w4.heap.size) hzx (fun g hg => (HOW7.out g hg).1))))
         have R11 := LH (hGr11.row (HRN.out.below ((Below.refl wr.heap.size wr).drew) HRN.out.lt) HN7.out)
         have hcn11 := fun i => R11.out.cell i
         have hfn11 := fun i => R11.out.frozen i
         have K11 := LH (fun q (hq : q < w4.heap.size) => (B11.out.block q hq).trans (HBX.out.block q hq).symm)
         clear G11 hGr11
         refine hK.out _ _ (F15.out _ K11.out (hcn11 1)) (fun hS11 => ?_)
         clear hK K hS1
         try simp only [List.getElem_toArray, List.getElem_cons_succ, List.getElem_cons_zero, Act.put, List.setIfInBounds_toArray, List.set_cons_zero, List.set_cons_succ]
         refine wpAnyT_take (i := 11) (oi := _) (v := ?zv11) rfl (by kernel_rfl) (by kernel_rfl) (by kernel_rfl) (by kernel_rfl) (fun _ _ _ h => h) (Or.inl ⟨by rfl, ?zh11⟩) hS11 ?_
         case zh11 => (intro x hSx; (try dsimp only at hSx); go_simp; (try with_reducible rfl))
         try simp only [List.getElem_toArray, List.getElem_cons_succ, List.getElem_cons_zero, Act.put, List.setIfInBounds_toArray, List.set_cons_zero, List.set_cons_succ]
         refine wpAnyT_last (by kernel_rfl) (by kernel_rfl) rfl (fun K hK => ?_)
         try simp only [List.getElem_toArray, List.getElem_cons_succ, List.getElem_cons_zero]
         go_simp
         refine hK.out _ _ ?_
         clear hK K hS11
         try simp only [List.getElem_toArray, List.getElem_cons_succ, List.getElem_cons_zero, Act.put, List.setIfInBounds_toArray, List.set_cons_zero, List.set_cons_succ]
         obtain ⟨wz, ez⟩ : ∃ wz, wz = w11.setCell ⟨n3, 1, none⟩ (.slice A11 mm c11) := ⟨_, rfl⟩
         rw [← ez]
         obtain ⟨T, hT⟩ : ∃ T, rows[j].asks.take k ++ kidsA a.path 0 rows[j].asks[k].pat.kids ++ rows[j].asks.drop (k + 1) = T := ⟨_, rfl⟩
         have BZ := LH (show Below w4.heap.size w4 wz by rw [ez]; exact B11.out.setCell (p := ⟨n3, 1, none⟩) hn4 _)
         have RZ := LH (show Row wz n3 66 #[.int .i64 rows[j].alt, .slice A11 mm c11] by rw [ez]; exact R11.out.set 1 _)
         have GZ := LH (show Grx (Xn n3 (.slice A' m c') (Xs S w.heap.size)) wz w4.heap.size 69 6 (.slice A11 mm c11) mm (T.map GAsk.toD) by
           rw [ez, ← hT, List.map_append, ← HTK.out]
           exact HG11.out.keepN HN11.out (by simp [World.setCell]) (fun q hq hq2 => Below.heap_setCell _ ⟨n3, 1, none⟩ _ q hq2))
         have HTM := LH (show asksM T ≤ asksM rows[j].asks by rw [← hT]; exact asksM_turned rows[j].asks k hk a.path)
         have HTL := LH (show bareA T = rows[j].asks.take k ++ bareA (kidsA a.path 0 rows[j].asks[k].pat.kids) ++ rows[j].asks.drop (k + 1) by rw [← hT]; exact bareA_turned (fun x hx => ((HBD.out _ (List.getElem_mem hlt)).2 x hx).1) k _)
         clear hT ez hcn11 hfn11 hcn hcq hck
         obtain ⟨L, hL⟩ : ∃ L, bareA T = L := ⟨_, rfl⟩
         have HL := LH hL
         have HV2 := LH (show yesR a (rows.take (j + 1)) = yesR a (rows.take j) ++ [⟨rows[j].alt, L⟩] by rw [HV.out, ← HTL.out, hL])
         have hlz := GZ.out.1
         rw [List.length_map] at hlz
         obtain ⟨A5, c5, e5, hs5⟩ := GZ.out.slY (Y := fun b => (Value.slice A' m c').ownBlock ≠ some b ∧ Xs S w.heap.size b) (fun b h => h.2) (fun b h => ⟨fun e => by have := (HOW.out _ e).2; omega, .inr (by omega)⟩)
         obtain ⟨rfl, rfl⟩ : A11 = A5 ∧ c11 = c5 := by simpa using e5
         have hdz := specBareS (fun b => ((Value.slice A' m c').ownBlock ≠ some b ∧ Xs S w.heap.size b) ∧ b < wz.heap.size) ⟨rows[j].alt, T⟩ A11 c11 wz (Nat.le_trans (asksM_len T) (Nat.le_trans HTM.out hkm)) (fun q hq => hq.2) hs5
         rw [show (⟨rows[j].alt, T⟩ : GTrow).asks.length = mm from hlz, hL] at hdz
         have HDZ := LH hdz
         have hcz := fun i => RZ.out.cell i
         clear hdz hs5 hlz hL e5
         go_wp2_with fail
         refine HDZ.out.mono ?_
         rintro e w12 ⟨A12, c12, rfl, hs12, hb12⟩
         have E12 := LH (BZ.out.trans (hb12.mono BZ.out.size))
         obtain ⟨w13, e13⟩ : ∃ w13, w13 = w12.alloc (.cells #[.int .i64 rows[j].alt, .slice A12 L.length c12] 66) := ⟨_, rfl⟩
         have E13 := LH (show Below w4.heap.size w4 w13 by rw [e13]; exact E12.out.alloc E12.out.size _)
         have hs13 := Nat.le_trans hs4 E13.out.size
         have G13 := LH (G4.out.below E13.out)
         have B13 := LH (B4.out.trans (E13.out.mono hz4))
         have T13 := LH (show Sl w13 (fun b => b < w13.heap.size ∧ (Value.slice A' m c').ownBlock ≠ some b ∧ Xs S w.heap.size b) 2 (some ⟨w12.heap.size, 0, none⟩) 1 [(⟨rows[j].alt, L⟩ : GTrow).toD] from
           slOne (T := 66) (cs := [.int .i64 rows[j].alt, .slice A12 L.length c12]) (by rw [e13]; exact Row.new' _ _ _ rfl) (GTrow.rd_mk (t := ⟨rows[j].alt, L⟩) ⟨HAT.out.1, hs12.keep fun q hq => ⟨⟨by rw [e13]; simp; have := hq.2; omega, fun e => by rcases hq.1 with h | h; exact h.1.1 e; have := (HOW.out _ e).2; have := BZ.out.size; omega, by rcases hq.1 with h | h; exact h.1.2; exact .inr (by have := BZ.out.size; omega)⟩, by rw [e13]; exact ((Below.refl _ _).alloc (Nat.le_refl _) _).block q hq.2⟩⟩) rfl ⟨by rw [e13]; simp, fun e => by have := (HOW.out _ e).2; have := E12.out.size; omega, .inr (by have := E12.out.size; omega)⟩)
         clear hb12 hs12
         go_wp2_with (first
           | (at_builtin
              rw [← e13]
              refine wpList_append_X w13 rfl (.tmp 97) (.tmp 100) 61 rfl 66 zTrow 2 32 Tryz.underlying61 (by kernel_rfl) rfl (by omega) (w.heap.size + 1) (.slice A' m c') m _ G13.out (some ⟨w12.heap.size, 0, none⟩) 1 1 _ rfl T13.out hs13 (by unfold maxLen; omega) (by omega) rfl rfl ?_
              intro A14 c14 w14 G14 hGr14
              have G14h := LH G14
              have Z14 := LH (Nat.le_trans hs13 hGr14.size)
              have Ra14 := LH (hGr14.row (R4.out.below E13.out R4.out.lt) (fun e => by have := (HOW.out _ e).1; omega))
              have B14 := LH (B13.out.trans (hGr14.below (B := w.heap.size) (by omega) (fun g hg => by have := (HOW.out g hg).1; omega)))
              clear G14 hGr14))
         go_roundw
         case rel => exact ⟨j + 1, m + 1, A14, c14, by omega, by go_num, rfl, by omega, LH (by rw [HV2.out, List.map_append]; exact G14h.out), Ra14, Z14.out, B14⟩
         case measure => simp [intOf]; omega
  ·
   have hje : j = rows.length := by omega
   have HLE := LH (show rows.take j = rows by rw [hje, List.take_length])
   have dl : decide ((j : Int) < (rows.length : Int)) = false := decide_eq_false (by omega)
   clear hje
   go_wp2_with fail
   go_ret
   have hG := HG.out
   rw [HLE.out] at hG
   obtain ⟨A5, c5, e5, hs5⟩ := hG.slY (Y := Xs S w.heap.size) (fun _ h => h) (fun b h => .inr (by omega))
   have hl5 := hG.1
   obtain ⟨rfl, rfl⟩ : A' = A5 ∧ c' = c5 := by simpa using e5
   exact ⟨A', c', ret_sl (by rw [← hl5]; simp), hs5, HB.out⟩
theorem growV_over {k many : Nat} {rows : List GTrow} (h : 300 < many + 1) : growV k many rows = (zeroT, many + 1) := by
 cases k with
 | zero => rfl
 | succ k => show growB (growV k) many rows = _; unfold growB; rw [if_pos h]
theorem growV_none {k many : Nat} {rows : List GTrow} (h : ¬ 300 < many + 1) (hr : rows.length = 0) : growV (k + 1) many rows = (.mk 2 0 [] ⟨#[]⟩ [], many + 1) := by
 obtain rfl := List.eq_nil_of_length_eq_zero hr
 show growB (growV k) many [] = _; unfold growB; rw [if_neg h]
theorem growV_done {k many : Nat} {rows : List GTrow} (h : ¬ 300 < many + 1) (hr : 0 < rows.length) (ha : rows[0].asks.length = 0) : growV (k + 1) many rows = (.mk 1 rows[0].alt [] ⟨#[]⟩ [], many + 1) := by
 match rows, hr with
 | r :: rest, _ =>
  have ha2 : r.asks = [] := List.eq_nil_of_length_eq_zero ha
  show growB (growV k) many (r :: rest) = _; unfold growB; rw [if_neg h]; simp only [ha2]; rfl
theorem growV_ask {k many : Nat} {rows : List GTrow} (h : ¬ 300 < many + 1) (hr : 0 < rows.length) (ha : 0 < rows[0].asks.length) :
 growV (k + 1) many rows = (askT rows[0].asks[0] [(growV k (many + 1) (yesR rows[0].asks[0] rows)).1, (growV k (growV k (many + 1) (yesR rows[0].asks[0] rows)).2 (noR rows[0].asks[0] rows)).1], (growV k (growV k (many + 1) (yesR rows[0].asks[0] rows)).2 (noR rows[0].asks[0] rows)).2) := by
 match rows, hr with
 | r :: rest, _ =>
  show growB (growV k) many (r :: rest) = _
  unfold growB
  rw [if_neg h]
  simp only [List.getElem_cons_zero] at ha ⊢
  split
  · rename_i e; rw [e] at ha; cases ha
  · rename_i a t e; simp [e]
theorem growV_le : ∀ (k many : Nat) (rows : List GTrow), (growV k many rows).2 ≤ max (many + 1) (301 + k)
 | 0, many, rows => Nat.le_max_left _ _
 | k + 1, many, rows => by
  by_cases h : 300 < many + 1
  · rw [growV_over h]; exact Nat.le_max_left _ _
  ·
   by_cases hr : 0 < rows.length
   · by_cases ha : 0 < rows[0].asks.length
     · rw [growV_ask h hr ha]
       have h1 := growV_le k (many + 1) (yesR rows[0].asks[0] rows)
       have h2 := growV_le k (growV k (many + 1) (yesR rows[0].asks[0] rows)).2 (noR rows[0].asks[0] rows)
       show (growV k (growV k (many + 1) (yesR rows[0].asks[0] rows)).2 (noR rows[0].asks[0] rows)).2 ≤ _
       omega
     · rw [growV_done h hr (by omega)]; exact Nat.le_max_left _ _
   · rw [growV_none h (by omega)]; exact Nat.le_max_left _ _
def askO (a : GAsk) : Int := if a.pat.op = 20 then 3 else 4
def askN (a : GAsk) : Int := if a.pat.op = 20 then 0 else a.pat.n
def askS (a : GAsk) : ByteArray := if a.pat.op = 20 then a.pat.s else ⟨#[]⟩
theorem askT_eq (a : GAsk) (kids : List GTree) : askT a kids = .mk (askO a) (askN a) a.path (askS a) kids := by
 unfold askT askO askN askS; split <;> rfl
theorem yesR_len (a : GAsk) (rows : List GTrow) : (yesR a rows).length ≤ rows.length := List.length_filterMap_le _ _
theorem noR_len (a : GAsk) (rows : List GTrow) : (noR a rows).length ≤ rows.length := List.length_filter_le _ _
theorem ownR_ints {w : World} {S T : Nat → Prop} {b : Nat} : ∀ (l : List Int) (off : Nat), D.rdR w S 1 b (l.map (D.num .i64)) off → D.ownR w 1 b (l.map (D.num .i64)) T off
 | [], _, _ => by simp only [List.map_nil, D.ownR]
 | d :: r, off, h => by
  simp only [List.map_cons, D.rdR, D.ownR] at h ⊢
  obtain ⟨⟨cs, h1, h2, h3⟩, h4⟩ := h
  exact ⟨fun _ => False, T, cs, fun x hx => hx.elim, fun x hx => hx, h1, h2, D.own_num.2 (D.rd_num.1 h3), ownR_ints r (off + 1) h4⟩
theorem Grx.oslOwn {X : Nat → Prop} {w : World} {B : Nat} {e : TypeId} {v : Value} {n : Nat} {l : List Int} (h : Grx X w B e 1 v n (l.map (D.num .i64))) : ∃ A c, v = .slice A n c ∧ Osl w (fun b => v.ownBlock = some b) 1 A c (l.map (D.num .i64)) := by
 obtain ⟨h1, cs, h2, h4⟩ := h
 rw [List.length_map] at h1
 rcases h2.2 with ⟨rfl, h⟩ | ⟨g, cap, cur, rfl, a1, a2, a3, a4, a5, a6⟩
 · have : l = [] := List.eq_nil_of_length_eq_zero (by omega)
   subst this
   exact ⟨none, 0, by rw [h], Osl.nil (by unfold maxLen; omega)⟩
 ·
  refine ⟨_, cap, rfl, by rw [List.length_map]; omega, a4, .inr ⟨g, rfl, rfl, fun o => Row.frozen (t := e) (cs := cur) a2 o, ownR_ints (S := fun _ => True) l 0 ?_⟩⟩
  refine rdC_row (l.map (D.num .i64)) cs 0 (fun j v hj => ?_) (rdC_ints l cs h4)
  rw [Nat.zero_add, Row.cell (t := e) (cs := cur) a2]
  rw [← a6, List.getElem?_take] at hj
  split at hj
  · simpa using hj
  · cases hj
theorem oslTwoTree {w : World} {S S1 S2 : Nat → Prop} {g : Nat} {T : TypeId} {t1 t2 : GTree} {A1 A2 A3 A4 : Option Addr} {c1 c2 c3 c4 : Nat}
 (hr : Row w g T #[.int .i64 t1.op, .int .i64 t1.n, .slice A1 t1.path.length c1, .string t1.s, .slice A2 t1.kids.length c2, .int .i64 t2.op, .int .i64 t2.n, .slice A3 t2.path.length c3, .string t2.s, .slice A4 t2.kids.length c4])
 (h1 : GTree.Ow w S1 A1 c1 A2 c2 t1) (h2 : GTree.Ow w S2 A3 c3 A4 c4 t2) (g1 : ∀ x, S1 x → (S x ∧ x ≠ g) ∧ ¬ S2 x) (g2 : ∀ x, S2 x → S x ∧ x ≠ g) (hg : S g) :
 Osl w S 5 (some ⟨g, 0, none⟩) 2 ([t1, t2].map GTree.toD) := by
 refine ⟨by simp, by unfold maxLen; omega, .inr ⟨g, rfl, hg, fun o => hr.frozen o, ?_⟩⟩
 simp only [List.map_cons, List.map_nil, D.ownR]
 refine ⟨S1, S2, _, g1, g2, rfl, fun j v hj => ?_, GTree.own_mk h1, S2, fun _ => False, _, fun x hx => ⟨hx, fun h => h⟩, fun x hx => hx.elim, rfl, fun j v hj => ?_, GTree.own_mk h2, trivial⟩
 · rw [hr.cell]
   rcases j with _ | _ | _ | _ | _ | j <;> simp at hj ⊢ <;> exact hj
 · rw [hr.cell]
   rcases j with _ | _ | _ | _ | _ | j <;> simp at hj ⊢ <;> exact hj
theorem indexFuncAsk (K : Nat) (hK : ∀ (args : Array Value) (w : World), (callFunc K args).run Tryz.prog w = .ok (.enter K args) w) (caps : Array Value) (p : GAsk → Bool) (l : List GAsk) (A : Option Addr) (c : Nat) (w : World) (hs : Sl w (Lt w.heap.size) 6 A c (l.map GAsk.toD))
 (H : ∀ x, x ∈ l → ∀ (A1 : Option Addr) (c1 : Nat) (A2 : Option Addr) (c2 : Nat) (w2 : World), Below w.heap.size w w2 → GAsk.At w2 (Lt w2.heap.size) A1 c1 A2 c2 x →
   Calls Tryz.prog K (#[.agg #[.slice A1 x.path.length c1, .int .i64 x.pat.op, .int .i64 x.pat.n, .string x.pat.s, .string x.pat.t, .slice A2 x.pat.kids.length c2]] ++ caps) w2 fun e w' => e = .returned (.bool (p x)) ∧ Below w2.heap.size w2 w') :
 Calls Tryz.prog 61 #[.slice A l.length c, .func (.func K) #[] caps] w fun e w' => e = .returned (.int .i64 (idxI p l)) ∧ Below w.heap.size w w' := by
 have hlen : l.length ≤ 9223372036854775807 := by simpa using hs.len
 have HH := LH H
 clear H
 go_enter Tryz.func61, Tryz.ntmps61
 go_wp2_with fail
 go_loopw [8] (fun i wr => ∃ j : Nat, j ≤ l.length ∧ i = .int .i64 j ∧ noneTo p l j ∧ Below w.heap.size w wr) (fun i _ => l.length - (intOf i).toNat)
 case atStart => exact ⟨0, by omega, by go_num, noneTo_zero p l, Below.refl _ _⟩
 case round =>
  obtain ⟨j, hj, rfl, hno, hbl⟩ := hrel
  have Hno := LH hno
  clear hno
  have hsz := hbl.size
  by_cases hlt : j < l.length
  ·
   have htr := GAsk.elem (hs.below hbl (Nat.le_refl _)) j hlt
   obtain ⟨b, off, A1, c1, A2, c2, rfl, hSb, g0, g1, g2, g3, g4, g5, hat⟩ := htr
   have hmem : l[j] ∈ l := List.getElem_mem hlt
   go_wp2_with fail
   refine (HH.out _ hmem _ _ _ _ _ hbl (hat.below (Below.refl _ _) hsz)).mono ?_
   rintro e w1 ⟨rfl, hb1⟩
   cases he : p l[j]
   · have hn := LH (noneTo_succ Hno.out hlt he)
     go_wp2_with fail
     go_roundw
     case rel => exact ⟨j + 1, by omega, by go_num, hn.out, hbl.trans (hb1.mono hsz)⟩
     case measure => simp [intOf]; omega
   · have hn := LH (idxI_at Hno.out hlt he)
     go_wp2_with fail
     go_ret
     exact ⟨ret_int hn.out.symm, hbl.trans (hb1.mono hsz)⟩
  ·
   have hjl : j = l.length := by omega
   have Hj := LH hjl
   clear hjl
   go_wp2_with fail
   go_ret
   exact ⟨ret_int (idxI_none (by have := Hno.out; rw [Hj.out] at this; exact this)).symm, hbl⟩
theorem equalInts (a b : List Int) (A : Option Addr) (c : Nat) (B : Option Addr) (d : Nat) (w : World) (ha : Sl w (Lt w.heap.size) 1 A c (a.map (D.num .i64))) (hb : Sl w (Lt w.heap.size) 1 B d (b.map (D.num .i64))) :
 Calls Tryz.prog 63 #[.slice A a.length c, .slice B b.length d] w fun e w' => e = .returned (.bool (a == b)) ∧ Below w.heap.size w w' := by
 have SA := LH ha
 have SB := LH hb
 have hla : a.length ≤ 9223372036854775807 := by simpa using ha.len
 have hlb : b.length ≤ 9223372036854775807 := by simpa using hb.len
 clear ha hb
 by_cases hl : a.length = b.length
 ·
  have HLE := LH hl
  have d0 : ((a.length : Int) != (b.length : Int)) = false := by rw [bne, hl]; simp
  clear hl
  go_enter Tryz.func63, Tryz.ntmps63
  go_wp2_with fail
  go_loopw [13] (fun i wr => ∃ (j : Nat), j ≤ a.length ∧ i = .int .i64 j ∧ Hid (∀ i, (h1 : i < a.length) → (h2 : i < b.length) → i < j → a[i] = b[i]) ∧ Hid (Below w.heap.size w wr)) (fun i _ => a.length - (intOf i).toNat)
  case atStart => exact ⟨0, by omega, by go_num, LH (fun i _ _ h => by omega), LH (Below.refl _ _)⟩
  case round =>
   obtain ⟨j, hj, rfl, HE, HB⟩ := hrel
   by_cases hlt : j < a.length
   ·
    have hlt2 : j < b.length := by have := HLE.out; omega
    have d1 : decide ((j : Int) < (a.length : Int)) = true := decide_eq_true (by omega)
    obtain ⟨b1, f1, rfl, hS1, g1, _⟩ := int_elem (SA.out.below HB.out (Nat.le_refl _)) j hlt
    obtain ⟨b2, f2, rfl, hS2, g2, _⟩ := int_elem (SB.out.below HB.out (Nat.le_refl _)) j hlt2
    cases he : (a[j] == b[j])
    ·
     have he2 : (a[j] != b[j]) = true := by rw [bne, he]; rfl
     have HV := LH (show (a == b) = false by
       rw [beq_eq_false_iff_ne]
       intro e
       rw [beq_eq_false_iff_ne] at he
       exact he (by simp [e]))
     go_wp2_with fail
     go_quiet (fail)
     go_wp2_with fail
     go_ret
     exact ⟨ret_bool HV.out.symm, HB.out.os, HB.out.tape, HB.out.output, HB.out.size, HB.out.block⟩
    ·
     have he2 : (a[j] != b[j]) = false := by rw [bne, he]; rfl
     have HE2 := LH (fun i (h1 : i < a.length) (h2 : i < b.length) (hij : i < j + 1) => show a[i] = b[i] by
       by_cases hh : i < j
       · exact HE.out i h1 h2 hh
       · obtain rfl : i = j := by omega
         simpa using he)
     go_wp2_with fail
     go_quiet (fail)
     go_wp2_with fail
     go_roundw
     case rel => exact ⟨j + 1, by omega, by go_num, HE2, LH ⟨HB.out.os, HB.out.tape, HB.out.output, HB.out.size, HB.out.block⟩⟩
     case measure => simp [intOf]; omega
   · have d1 : decide ((j : Int) < (a.length : Int)) = false := decide_eq_false (by omega)
     have HV := LH (show (a == b) = true by
       rw [beq_iff_eq]
       exact List.ext_getElem HLE.out fun i h1 h2 => HE.out i h1 h2 (by omega))
     go_wp2_with fail
     go_ret
     exact ⟨ret_bool HV.out.symm, HB.out⟩
 ·
  have d0 : ((a.length : Int) != (b.length : Int)) = true := by rw [bne, show ((a.length : Int) == (b.length : Int)) = false from by rw [beq_eq_false_iff_ne]; omega]; rfl
  have HV := LH (show (a == b) = false by
    rw [beq_eq_false_iff_ne]
    intro e
    exact hl (by rw [e]))
  clear hl
  go_enter Tryz.func63, Tryz.ntmps63
  go_wp2_with fail
  go_ret
  exact ⟨ret_bool HV.out.symm, Below.refl _ _⟩
theorem implSameAsk (p q : GNode) (A : Option Addr) (c : Nat) (B : Option Addr) (d : Nat) (w : World) :
 Calls Tryz.prog 64 #[.agg #[.int .i64 p.op, .int .i64 p.n, .string p.s, .string p.t, .slice A p.kids.length c], .agg #[.int .i64 q.op, .int .i64 q.n, .string q.s, .string q.t, .slice B q.kids.length d]] w fun e w' => e = .returned (.bool (sameP p q)) ∧ Below w.heap.size w w' := by
 have B := LH (show Below w.heap.size w ((w.alloc (.cells #[.int .i64 p.op, .int .i64 p.n, .string p.s, .string p.t, .slice A p.kids.length c] 39)).alloc (.cells #[.int .i64 q.op, .int .i64 q.n, .string q.s, .string q.t, .slice B q.kids.length d] 39)) from ((Below.refl _ _).alloc (Nat.le_refl _) _).alloc (by simp) _)
 cases h1 : (p.op == q.op)
 case' true => cases h2 : (p.s.toList == q.s.toList)
 case' true.true => cases h3 : (p.n == q.n)
 all_goals
  go_enter Tryz.func64, Tryz.ntmps64
  go_wp2_with fail
  go_ret
  exact ⟨ret_bool (by rw [sameP_def]; simp [*]), B.out⟩
theorem implLasting1 (x : GAsk) (A1 : Option Addr) (c1 : Nat) (A2 : Option Addr) (c2 : Nat) (w : World) :
 Calls Tryz.prog 34 #[.agg #[.slice A1 x.path.length c1, .int .i64 x.pat.op, .int .i64 x.pat.n, .string x.pat.s, .string x.pat.t, .slice A2 x.pat.kids.length c2]] w fun e w' => e = .returned (.bool (isAnyB x.pat)) ∧ Below w.heap.size w w' := by
 obtain ⟨w0, e0⟩ : ∃ w0, w0 = w.alloc (.cells #[.slice A1 x.path.length c1, .int .i64 x.pat.op, .int .i64 x.pat.n, .string x.pat.s, .string x.pat.t, .slice A2 x.pat.kids.length c2] 54) := ⟨_, rfl⟩
 have E0 := LH (show Below w.heap.size w w0 by rw [e0]; exact (Below.refl _ _).alloc (Nat.le_refl _) _)
 go_enter Tryz.func34, Tryz.ntmps34
 go_wp2_with fail
 rw [← e0]
 refine (implIsAny x.pat A2 c2 w0).mono ?_
 rintro e w1 ⟨rfl, hb1⟩
 go_wp2_with fail
 go_ret
 exact ⟨rfl, E0.out.trans (hb1.mono E0.out.size)⟩
theorem rdC_get {w : World} {size : Nat} {S : Nat → Prop} : ∀ (xs : List D) (cs : List Value) (i : Nat) (h : i < xs.length), rdC w size S xs cs → ∃ c6 : List Value, c6.length = size ∧ (∀ t v, c6[t]? = some v → cs[i * size + t]? = some v) ∧ (xs[i]).rd w S c6
 | [], _, i, h, _ => absurd h (by simp)
 | d :: r, cs, 0, h, hr => by
  simp only [rdC] at hr
  obtain ⟨c1, c2, rfl, hl, h1, h2⟩ := hr
  refine ⟨c1, hl, fun t v ht => ?_, h1⟩
  have := (List.getElem?_eq_some_iff.1 ht).1
  rw [Nat.zero_mul, Nat.zero_add, List.getElem?_append_left this]; exact ht
 | d :: r, cs, i + 1, h, hr => by
  simp only [rdC] at hr
  obtain ⟨c1, c2, rfl, hl, h1, h2⟩ := hr
  obtain ⟨c6, k1, k2, k3⟩ := rdC_get r c2 i (by simpa using h) h2
  refine ⟨c6, k1, fun t v ht => ?_, by simpa using k3⟩
  have := k2 t v ht
  rw [List.getElem?_append_right (by rw [hl, Nat.add_mul]; omega), hl]
  rw [← this]; congr 1; rw [Nat.add_mul]; omega
theorem rdC_mk {w : World} {size : Nat} {S : Nat → Prop} : ∀ (xs : List D) (cs : List Value), cs.length = xs.length * size → (∀ i (h : i < xs.length), ∃ c6 : List Value, c6.length = size ∧ (∀ t v, c6[t]? = some v → cs[i * size + t]? = some v) ∧ (xs[i]).rd w S c6) → rdC w size S xs cs
 | [], cs, hl, _ => by simp only [rdC]; exact List.eq_nil_of_length_eq_zero (by simpa using hl)
 | d :: r, cs, hl, h => by
  simp only [rdC]
  rw [List.length_cons, Nat.add_mul, Nat.one_mul] at hl
  obtain ⟨c6, k1, k2, k3⟩ := h 0 (by simp)
  have e6 : cs.take size = c6 := by
   refine List.ext_getElem? fun t => ?_
   by_cases ht : t < size
   · rw [List.getElem?_take_of_lt ht]
     have := k2 t (c6[t]'(by omega)) (List.getElem?_eq_getElem (by omega))
     rw [Nat.zero_mul, Nat.zero_add] at this
     rw [this, List.getElem?_eq_getElem (by omega)]
   · rw [List.getElem?_eq_none (by rw [List.length_take]; omega), List.getElem?_eq_none (by omega)]
  refine ⟨cs.take size, cs.drop size, (List.take_append_drop _ _).symm, by rw [List.length_take]; omega, by rw [e6]; exact k3, rdC_mk r (cs.drop size) (by rw [List.length_drop]; omega) fun i hi => ?_⟩
  obtain ⟨d6, m1, m2, m3⟩ := h (i + 1) (by simpa using hi)
  refine ⟨d6, m1, fun t v ht => ?_, by simpa using m3⟩
  rw [List.getElem?_drop, ← m2 t v ht]
  congr 1; rw [Nat.add_mul]; omega
def GP (X : Nat → Prop) (w : World) (B : Nat) (e : TypeId) (g c n : Nat) (l : List GAsk) : Prop :=
 B ≤ g ∧ n ≤ c ∧ c ≤ maxLen ∧ l.length = n ∧ ∃ cur : Array Value, Row w g e cur ∧ cur.size = c * 6 ∧ ∀ i (h : i < l.length), ∃ c6 : List Value, c6.length = 6 ∧ (∀ t v, c6[t]? = some v → cur[i * 6 + t]? = some v) ∧ (l[i]).toD.rd w (fun b => b < w.heap.size ∧ b ≠ g ∧ X b) c6
theorem Grx.gp {X : Nat → Prop} {w : World} {B : Nat} {e : TypeId} {g c n : Nat} {l : List GAsk} (h : Grx X w B e 6 (.slice (some ⟨g, 0, none⟩) n c) n (l.map GAsk.toD)) : GP X w B e g c n l := by
 obtain ⟨h1, cs, h2, h4⟩ := h
 rw [List.length_map] at h1
 rcases h2.2 with ⟨h, -⟩ | ⟨g', cap, cur, hv, a1, a2, a3, a4, a5, a6⟩
 · cases h
 ·
  simp only [Value.slice.injEq, Option.some.injEq, Addr.mk.injEq, and_true, true_and] at hv
  obtain ⟨rfl, rfl⟩ := hv
  refine ⟨a1, a3, a4, h1, cur, a2, a5, fun i hi => ?_⟩
  obtain ⟨c6, k1, k2, k3⟩ := rdC_get _ cs i (by simpa using hi) h4
  refine ⟨c6, k1, fun t v ht => ?_, ?_⟩
  · have := k2 t v ht
    rw [← a6, List.getElem?_take] at this
    split at this
    · simpa using this
    · cases this
  · rw [List.getElem_map] at k3
    exact D.rd_keep (fun b hb => ⟨⟨hb.1, fun e => hb.2.1 (by rw [e]; rfl), hb.2.2⟩, rfl⟩) _ _ k3
theorem GP.grx {X : Nat → Prop} {w : World} {B : Nat} {e : TypeId} {g c n : Nat} {l : List GAsk} (h : GP X w B e g c n l) : Grx X w B e 6 (.slice (some ⟨g, 0, none⟩) n c) n (l.map GAsk.toD) := by
 obtain ⟨h1, h2, h3, h4, cur, h5, h6, h7⟩ := h
 have hlen : (cur.toList.take (n * 6)).length = n * 6 := by rw [List.length_take, Array.length_toList, h6]; omega
 refine ⟨by simpa using h4, cur.toList.take (n * 6), ⟨hlen, .inr ⟨g, c, cur, rfl, h1, h5, h2, h3, h6, rfl⟩⟩, rdC_mk _ _ (by rw [hlen, List.length_map, h4]) fun i hi => ?_⟩
 obtain ⟨c6, k1, k2, k3⟩ := h7 i (by simpa using hi)
 refine ⟨c6, k1, fun t v ht => ?_, ?_⟩
 · have ht6 := (List.getElem?_eq_some_iff.1 ht).1
   rw [List.length_map] at hi
   rw [List.getElem?_take_of_lt (by omega)]
   simpa using k2 t v ht
 · rw [List.getElem_map]
   exact D.rd_keep (fun b hb => ⟨⟨hb.1, fun e => hb.2.1 (by have : some g = some b := e; cases this; rfl), hb.2.2⟩, rfl⟩) _ _ k3
theorem GP.below {X : Nat → Prop} {w w' : World} {B : Nat} {e : TypeId} {g c n : Nat} {l : List GAsk} (h : GP X w B e g c n l) (hb : Below w.heap.size w w') : GP X w' B e g c n l := by
 obtain ⟨h1, h2, h3, h4, cur, h5, h6, h7⟩ := h
 refine ⟨h1, h2, h3, h4, cur, h5.below hb h5.lt, h6, fun i hi => ?_⟩
 obtain ⟨c6, k1, k2, k3⟩ := h7 i hi
 exact ⟨c6, k1, k2, D.rd_keep (fun b hb2 => ⟨⟨Nat.lt_of_lt_of_le hb2.1 hb.size, hb2.2⟩, hb.block b hb2.1⟩) _ _ k3⟩
theorem GP.set {X : Nat → Prop} {w : World} {B : Nat} {e : TypeId} {g c n : Nat} {l : List GAsk} (h : GP X w B e g c n l) (i : Nat) (hi : i < l.length) (x : GAsk) (cs : List Value) (hcs : cs.length = 6) (hx : x.toD.rd w (fun b => b < w.heap.size ∧ b ≠ g ∧ X b) cs) : GP X (setCells w g (i * 6) cs) B e g c n (l.set i x) := by
 obtain ⟨h1, h2, h3, h4, cur, h5, h6, h7⟩ := h
 obtain ⟨cur', r1, r2, r3, r4⟩ := setCells_row h5 (i * 6) cs
 have hk : ∀ (d : D) (v : List Value), d.rd w (fun b => b < w.heap.size ∧ b ≠ g ∧ X b) v → d.rd (setCells w g (i * 6) cs) (fun b => b < (setCells w g (i * 6) cs).heap.size ∧ b ≠ g ∧ X b) v := fun d v hd =>
  D.rd_keep (fun b hb => ⟨by rw [setCells_size]; exact hb, setCells_block w g (i * 6) cs b hb.2.1⟩) d v hd
 refine ⟨h1, h2, h3, by rw [List.length_set]; exact h4, cur', r1, by rw [r2]; exact h6, fun j hj => ?_⟩
 rw [List.length_set] at hj
 by_cases hij : i = j
 · subst hij
   refine ⟨cs, hcs, fun t v ht => r4 t v ht ?_, by rw [List.getElem_set_self]; exact hk _ _ hx⟩
   have := (List.getElem?_eq_some_iff.1 ht).1
   omega
 · obtain ⟨c6, k1, k2, k3⟩ := h7 j hj
   refine ⟨c6, k1, fun t v ht => ?_, by rw [List.getElem_set_ne hij]; exact hk _ _ k3⟩
   have := (List.getElem?_eq_some_iff.1 ht).1
   rw [r3 _ (by omega)]
   exact k2 t v ht
theorem GP.cut {X : Nat → Prop} {w : World} {B : Nat} {e : TypeId} {g c n : Nat} {l : List GAsk} (h : GP X w B e g c n l) (i : Nat) (hi : i ≤ n) (vs : List Value) : GP X (setCells w g (i * 6) vs) B e g c i (l.take i) := by
 obtain ⟨h1, h2, h3, h4, cur, h5, h6, h7⟩ := h
 obtain ⟨cur', r1, r2, r3, r4⟩ := setCells_row h5 (i * 6) vs
 refine ⟨h1, by omega, h3, by rw [List.length_take]; omega, cur', r1, by rw [r2]; exact h6, fun j hj => ?_⟩
 rw [List.length_take] at hj
 obtain ⟨c6, k1, k2, k3⟩ := h7 j (by omega)
 refine ⟨c6, k1, fun t v ht => ?_, ?_⟩
 · have := (List.getElem?_eq_some_iff.1 ht).1
   rw [r3 _ (by omega)]
   exact k2 t v ht
 · rw [List.getElem_take]
   exact D.rd_keep (fun b hb => ⟨by rw [setCells_size]; exact hb, setCells_block w g (i * 6) vs b hb.2.1⟩) _ _ k3
theorem setCells_kit (g : Nat) : ∀ (vs : List Value) (k : Nat) (w : World), w.setCells g k vs = setCells w g k vs
 | [], _, _ => rfl
 | v :: r, k, w => by simp only [World.setCells, setCells, setCells_kit g r (k + 1)]
theorem setCells_gr (w : World) (g k : Nat) (vs : List Value) (n c : Nat) : Gr w (setCells w g k vs) (.slice (some ⟨g, 0, none⟩) n c) (.slice (some ⟨g, 0, none⟩) n c) := by
 have hb := setCells_below (Below.refl 0 w) g k (Nat.zero_le _) vs
 exact ⟨⟨hb.os, hb.tape, hb.output, hb.size, fun b hb2 hne => setCells_block w g k vs b fun e => hne (by rw [e]; rfl)⟩, .inl rfl⟩
theorem GP.elem {X : Nat → Prop} {w : World} {B : Nat} {e : TypeId} {g c n : Nat} {l : List GAsk} (h : GP X w B e g c n l) (i : Nat) (hi : i < l.length) :
 ∃ A1 c1 A2 c2, w.cell? ⟨g, i * 6, none⟩ = some (.slice A1 l[i].path.length c1) ∧ w.cell? ⟨g, i * 6 + 1, none⟩ = some (.int .i64 l[i].pat.op) ∧ w.cell? ⟨g, i * 6 + 2, none⟩ = some (.int .i64 l[i].pat.n) ∧ w.cell? ⟨g, i * 6 + 3, none⟩ = some (.string l[i].pat.s) ∧ w.cell? ⟨g, i * 6 + 4, none⟩ = some (.string l[i].pat.t) ∧ w.cell? ⟨g, i * 6 + 5, none⟩ = some (.slice A2 l[i].pat.kids.length c2) ∧ GAsk.At w (fun b => b < w.heap.size ∧ b ≠ g ∧ X b) A1 c1 A2 c2 l[i] := by
 obtain ⟨h1, h2, h3, h4, cur, h5, h6, h7⟩ := h
 obtain ⟨c6, k1, k2, k3⟩ := h7 i hi
 obtain ⟨A1, c1, A2, c2, rfl, hat⟩ := GAsk.rd k3
 exact ⟨A1, c1, A2, c2, (h5.cell _).trans (k2 0 _ rfl), (h5.cell _).trans (k2 1 _ rfl), (h5.cell _).trans (k2 2 _ rfl), (h5.cell _).trans (k2 3 _ rfl), (h5.cell _).trans (k2 4 _ rfl), (h5.cell _).trans (k2 5 _ rfl), hat⟩
theorem GP.frozen {X : Nat → Prop} {w : World} {B : Nat} {e : TypeId} {g c n : Nat} {l : List GAsk} (h : GP X w B e g c n l) (o : Nat) : w.frozen? ⟨g, o, none⟩ = false := by
 obtain ⟨h1, h2, h3, h4, cur, h5, h6, h7⟩ := h
 exact h5.frozen o
theorem GP.some {X : Nat → Prop} {w : World} {B : Nat} {e : TypeId} {g c n : Nat} {l : List GAsk} (h : GP X w B e g c n l) (o : Nat) (ho : o < n * 6) : (w.cell? ⟨g, o, none⟩).isSome = true := by
 obtain ⟨h1, h2, h3, h4, cur, h5, h6, h7⟩ := h
 rw [h5.cell, Array.getElem?_eq_getElem (by omega)]; rfl
theorem GP.lt {X : Nat → Prop} {w : World} {B : Nat} {e : TypeId} {g c n : Nat} {l : List GAsk} (h : GP X w B e g c n l) : B ≤ g ∧ g < w.heap.size := by
 obtain ⟨h1, h2, h3, h4, cur, h5, h6, h7⟩ := h
 exact ⟨h1, h5.lt⟩
theorem run_clear_any {P : Program} (w : World) (t e ty : TypeId) (z : Value) (ht : P.underlying t = some (.slice e)) (hv : ∀ w, (zeroValue e).run P w = .ok z w) (b o n c : Nat) (hn : 0 < n) (h1 : ∀ v ∈ (Builtin.zeroCells z.cells n).toList, v.oneCell' = true)
 (hc : ∀ j, j < (Builtin.zeroCells z.cells n).toList.length → (w.cell? ⟨b, o + j, none⟩).isSome = true) (hf : ∀ j, j < (Builtin.zeroCells z.cells n).toList.length → w.frozen? ⟨b, o + j, none⟩ = false) :
 (Builtin.clear_ #[t] ty #[.slice (some ⟨b, o, none⟩) n c]).run P w = .ok (.tuple #[]) (setCells w b o (Builtin.zeroCells z.cells n).toList) := by
 have hst := run_storeCells_cells (P := P) b o (Builtin.zeroCells z.cells n).toList 0 w (by simpa using hc) (by simpa using hf) h1
 simp only [Nat.add_zero] at hst
 rw [setCells_kit] at hst
 obtain ⟨m, rfl⟩ : ∃ m, n = m + 1 := ⟨n - 1, by omega⟩
 simp [Builtin.clear_, run_underlying ht, hv, hst]
theorem zeroAsk6 (n : Nat) : (Builtin.zeroCells zAsk.cells n).toList.length = n * 6 := by
 rw [Array.length_toList, size_zeroCells]; rfl
theorem zeroAsk_one (n : Nat) : ∀ v ∈ (Builtin.zeroCells zAsk.cells n).toList, v.oneCell' = true := by
 intro v hv
 have h : ∀ k, k < 6 → (zAsk.cells[k]!).oneCell' = true := by decide
 simp only [Builtin.zeroCells, Array.toList_map, List.mem_map] at hv
 obtain ⟨k, -, rfl⟩ := hv
 exact h _ (Nat.mod_lt _ (by decide))
theorem deleteFuncAsk (X : Nat → Prop) (B K : Nat) (hK : ∀ (args : Array Value) (w : World), (callFunc K args).run Tryz.prog w = .ok (.enter K args) w) (caps : Array Value) (p : GAsk → Bool) (l : List GAsk) (A : Option Addr) (c : Nat) (w : World) (hl : l.length ≤ 1048577)
 (hG : Grx X w B 54 6 (.slice A l.length c) l.length (l.map GAsk.toD))
 (H : ∀ (x : GAsk) (A1 : Option Addr) (c1 : Nat) (A2 : Option Addr) (c2 : Nat) (w2 : World), Calls Tryz.prog K (#[.agg #[.slice A1 x.path.length c1, .int .i64 x.pat.op, .int .i64 x.pat.n, .string x.pat.s, .string x.pat.t, .slice A2 x.pat.kids.length c2]] ++ caps) w2 fun e w' => e = .returned (.bool (p x)) ∧ Below w2.heap.size w2 w') :
 Calls Tryz.prog 33 #[.slice A l.length c, .func (.func K) #[] caps] w fun e w' => e = .returned (.slice A (l.filter fun x => !p x).length c) ∧ Grx X w' B 54 6 (.slice A (l.filter fun x => !p x).length c) (l.filter fun x => !p x).length ((l.filter fun x => !p x).map GAsk.toD) ∧ Gr w w' (.slice A l.length c) (.slice A (l.filter fun x => !p x).length c) := by
 have HG := LH hG
 have HH := LH H
 have SL := LH (show Sl w (Lt w.heap.size) 6 A c (l.map GAsk.toD) from by
   obtain ⟨A', c', e, h⟩ := hG.slX
   obtain ⟨rfl, rfl⟩ : A = A' ∧ c = c' := by simpa using e
   exact h)
 have hcm : l.length ≤ c := by simpa using SL.out.1
 have hcm2 : c ≤ 9223372036854775807 := by have := SL.out.2.1; unfold maxLen at this; omega
 clear hG H
 cases ha : l.any p
 ·
  have hi := idxI_any_false ha
  have HF := LH (show (l.filter fun x => !p x) = l from List.filter_eq_self.2 fun x hx => by rw [List.any_eq_false] at ha; simpa using ha x hx)
  clear ha
  go_enter Tryz.func33, Tryz.ntmps33
  go_wp2_with fail
  refine (indexFuncAsk K hK caps p l A c _ SL.out (fun x hx A1 c1 A2 c2 w2 hb2 _ => HH.out x A1 c1 A2 c2 w2)).mono ?_
  rintro e w1 ⟨rfl, hb1⟩
  rw [hi]
  clear hi
  go_wp2_with fail
  go_ret
  rw [HF.out]
  exact ⟨rfl, HG.out.below hb1, Gr.of_below hb1⟩
 ·
  have hi := idxI_any_true ha
  obtain ⟨k0, hk0, e0, hp0, hn0⟩ := idxI_spec (p := p) (l := l) (by omega)
  obtain ⟨g, off, A1, c1, A2, c2, rfl, -⟩ := GAsk.elem SL.out k0 hk0
  have hoff : off = 0 := by
   obtain ⟨h1, cs, h2, h4⟩ := HG.out
   rcases h2.2 with ⟨h, -⟩ | ⟨g', cap, cur, hv, -⟩
   · cases h
   · simp only [Value.slice.injEq, Option.some.injEq, Addr.mk.injEq] at hv
     exact hv.1.2.1
  subst hoff
  have HP := LH hp0
  have HN := LH hn0
  have GP0 := LH HG.out.gp
  clear ha hi hp0 hn0
  go_enter Tryz.func33, Tryz.ntmps33
  go_wp2_with fail
  refine (indexFuncAsk K hK caps p l _ c _ SL.out (fun x hx A1 c1 A2 c2 w2 hb2 _ => HH.out x A1 c1 A2 c2 w2)).mono ?_
  rintro e w1 ⟨rfl, hb1⟩
  rw [e0]
  clear e0
  have G1 := LH (GP0.out.below hb1)
  have GR1 := LH (Gr.of_below (v := .slice (some ⟨g, 0, none⟩) l.length c) hb1)
  clear hb1
  have hne : ((k0 : Int) == -1) = false := beq_eq_false_iff_ne.2 (by omega)
  go_wp2_with fail
  clear hne
  go_loopw [5, 6] (fun s5 s6 wr => ∃ (i j : Nat) (zs : List GAsk), s5 = .int .i64 i ∧ s6 = .int .i64 j ∧ i < j ∧ j ≤ l.length ∧ Hid (zs.length = l.length) ∧ Hid (zs.take i = (l.take j).filter fun x => !p x) ∧ Hid (∀ k, j ≤ k → zs[k]? = l[k]?) ∧ Hid (GP X wr B 54 g c l.length zs) ∧ Hid (Gr w wr (.slice (some ⟨g, 0, none⟩) l.length c) (.slice (some ⟨g, 0, none⟩) l.length c))) (fun _ s6 _ => l.length - (intOf s6).toNat)
  case atStart => exact ⟨k0, k0 + 1, l, by go_num, by go_num, by omega, by omega, LH rfl, LH (by
    rw [take_snoc' l k0 hk0, List.filter_append, List.filter_eq_self.2 (fun x hx => by
      obtain ⟨i, hi, rfl⟩ := List.getElem_of_mem hx
      rw [List.getElem_take, HN.out i (by simp at hi; omega) (by simp at hi; omega)]; rfl)]
    simp [HP.out]), LH (fun _ _ => rfl), G1, GR1⟩
  case round =>
   obtain ⟨i, j, zs, rfl, rfl, hij, hj, HL, HT, HX, HGr, HR⟩ := hrel
   have hlg := HGr.out.lt.2
   by_cases hlt : j < l.length
   ·
    have dl : decide ((j : Int) < (l.length : Int)) = true := decide_eq_true (by omega)
    obtain ⟨A1, c1, A2, c2, q0, q1, q2, q3, q4, q5, hat⟩ := HGr.out.elem j (by rw [HL.out]; exact hlt)
    have hzj : zs[j]'(by rw [HL.out]; exact hlt) = l[j] := by
     have := HX.out j (Nat.le_refl _)
     rw [List.getElem?_eq_getElem (by rw [HL.out]; exact hlt), List.getElem?_eq_getElem hlt] at this
     simpa using this
    rw [hzj] at q0 q1 q2 q3 q4 q5 hat
    clear hzj
    obtain ⟨x, hx⟩ : ∃ x, l[j] = x := ⟨_, rfl⟩
    rw [hx] at q0 q1 q2 q3 q4 q5 hat
    have HXJ := LH hx
    obtain ⟨w2, e2⟩ : ∃ w2, w2 = wr.alloc (.cells #[.slice A1 x.path.length c1, .int .i64 x.pat.op, .int .i64 x.pat.n, .string x.pat.s, .string x.pat.t, .slice A2 x.pat.kids.length c2] 54) := ⟨_, rfl⟩
    have E2 := LH (show Below wr.heap.size wr w2 by rw [e2]; exact (Below.refl _ _).alloc (Nat.le_refl _) _)
    have R2 := LH (show Row w2 wr.heap.size 54 #[.slice A1 x.path.length c1, .int .i64 x.pat.op, .int .i64 x.pat.n, .string x.pat.s, .string x.pat.t, .slice A2 x.pat.kids.length c2] by rw [e2]; exact Row.new _ _ _)
    have HAT := LH (hat.keep (w' := w2) (S' := fun b => b < w2.heap.size ∧ b ≠ g ∧ X b) fun b hb => ⟨⟨Nat.lt_of_lt_of_le hb.1 E2.out.size, hb.2⟩, E2.out.block b hb.1⟩)
    have HCL := LH (fun w3 => HH.out x A1 c1 A2 c2 w3)
    clear hx hat
    go_upto_region 8 with (fail)
    rw [← e2]
    clear e2 q0 q1 q2 q3 q4 q5
    have hca := fun i => R2.out.cell i
    have hgr2 : g ≠ wr.heap.size := by omega
    go_wp2_with fail
    refine (HCL.out _).mono ?_
    rintro e w3 ⟨rfl, hb3⟩
    have E3 := LH (E2.out.trans (hb3.mono E2.out.size))
    have R3 := LH (R2.out.below hb3 R2.out.lt)
    have HAT3 := LH (HAT.out.keep (w' := w3) (S' := fun b => b < w3.heap.size ∧ b ≠ g ∧ X b) fun b hb => ⟨⟨Nat.lt_of_lt_of_le hb.1 hb3.size, hb.2⟩, hb3.block b hb.1⟩)
    have G3 := LH (HGr.out.below E3.out)
    have GR3 := LH (HR.out.trans (Gr.of_below (v := .slice (some ⟨g, 0, none⟩) l.length c) E3.out))
    clear hb3 hca
    cases hp : p x
    ·
     have hc3 := fun i => R3.out.cell i
     obtain ⟨D1, d1, D2, d2, m0, m1, m2, m3, m4, m5, -⟩ := G3.out.elem i (by rw [HL.out]; omega)
     have hfz := fun o => G3.out.frozen o
     have G4 := LH (G3.out.set i (by rw [HL.out]; omega) x [.slice A1 x.path.length c1, .int .i64 x.pat.op, .int .i64 x.pat.n, .string x.pat.s, .string x.pat.t, .slice A2 x.pat.kids.length c2] rfl (GAsk.rd_mk HAT3.out))
     have GR4 := LH (GR3.out.trans (setCells_gr w3 g (i * 6) [.slice A1 x.path.length c1, .int .i64 x.pat.op, .int .i64 x.pat.n, .string x.pat.s, .string x.pat.t, .slice A2 x.pat.kids.length c2] l.length c))
     have HN2 := LH (show (zs.set i x).take (i + 1) = (l.take (j + 1)).filter fun x => !p x from by
       rw [take_snoc' l j hlt, List.filter_append, ← HT.out, take_snoc' _ i (by simp [HL.out]; omega), List.take_set_of_le (Nat.le_refl _), HXJ.out]
       simp [hp])
     have HX2 := LH (show ∀ k, j + 1 ≤ k → (zs.set i x)[k]? = l[k]? from fun k hk => by rw [List.getElem?_set_ne (by omega)]; exact HX.out k (by omega))
     have hil : decide ((i : Int) < (l.length : Int)) = true := decide_eq_true (by omega)
     clear hp
     go_wp2_with fail
     go_roundw
     case rel => exact ⟨i + 1, j + 1, zs.set i x, by go_num, by go_num, by omega, by omega, LH (by rw [List.length_set]; exact HL.out), HN2, HX2, G4, GR4⟩
     case measure => simp [intOf]; omega
    · have HN2 := LH (show zs.take i = (l.take (j + 1)).filter fun x => !p x from by
        rw [take_snoc' l j hlt, List.filter_append, ← HT.out, HXJ.out]
        simp [hp])
      clear hp
      go_wp2_with fail
      go_roundw
      case rel => exact ⟨i, j + 1, zs, by go_num, by go_num, by omega, by omega, HL, HN2, LH (fun k hk => HX.out k (by omega)), G3, GR3⟩
      case measure => simp [intOf]; omega
   ·
    have HJ := LH (show j = l.length by omega)
    have dl : decide ((j : Int) < (l.length : Int)) = false := decide_eq_false (by omega)
    have HE := LH (show zs.take i = l.filter fun x => !p x from by rw [HT.out, HJ.out, List.take_length])
    have hil : i < l.length := by omega
    have HEL := LH (show (l.filter fun x => !p x).length = i from by rw [← HE.out, List.length_take, HL.out]; omega)
    have G3 := LH (HGr.out.cut i (by omega) (Builtin.zeroCells zAsk.cells (l.length - i)).toList)
    have GR3 := LH (HR.out.trans (setCells_gr wr g (i * 6) (Builtin.zeroCells zAsk.cells (l.length - i)).toList l.length c))
    have hcl : ∀ ty, (Builtin.clear_ #[51] ty #[.slice (some ⟨g, i * 6, none⟩) (l.length - i) (c - i)]).run Tryz.prog wr = .ok (.tuple #[]) (setCells wr g (i * 6) (Builtin.zeroCells zAsk.cells (l.length - i)).toList) :=
     fun ty => run_clear_any wr _ 54 ty zAsk Tryz.underlying51 Tryz.zeroValue54 g (i * 6) _ _ (by omega) (zeroAsk_one _)
      (fun t ht => by rw [zeroAsk6] at ht; exact HGr.out.some _ (by have := HGr.out.2.2.2.1; omega))
      (fun t ht => HGr.out.frozen _)
    obtain ⟨vs, hvs⟩ : ∃ vs, (Builtin.zeroCells zAsk.cells (l.length - i)).toList = vs := ⟨_, rfl⟩
    rw [hvs] at G3 GR3 hcl
    clear hvs
    go_wp2_with fail
    go_ret
    rw [HEL.out, ← HE.out]
    exact ⟨rfl, G3.out.grx, GR3.out.grow, .inl rfl⟩
theorem implLasting (X : Nat → Prop) (B : Nat) (l : List GAsk) (A : Option Addr) (c : Nat) (w : World) (hl : l.length ≤ 1048577) (hG : Grx X w B 54 6 (.slice A l.length c) l.length (l.map GAsk.toD)) :
 Calls Tryz.prog 18 #[.slice A l.length c] w fun e w' => e = .returned (.slice A (bareA l).length c) ∧ Grx X w' B 54 6 (.slice A (bareA l).length c) (bareA l).length ((bareA l).map GAsk.toD) ∧ Gr w w' (.slice A l.length c) (.slice A (bareA l).length c) := by
 have HD := LH (deleteFuncAsk X B 34 (enters Tryz.func34 (by kernel_rfl) (by kernel_rfl)) #[] (fun x => isAnyB x.pat) l A c w hl hG (fun x A1 c1 A2 c2 w2 => implLasting1 x A1 c1 A2 c2 w2))
 clear hG
 go_enter Tryz.func18, Tryz.ntmps18
 go_wp2_with fail
 refine HD.out.mono ?_
 rintro e w1 ⟨rfl, hg, hgr⟩
 have HG := LH hg
 have HR := LH hgr
 clear hg hgr
 go_wp2_with fail
 go_ret
 exact ⟨rfl, HG.out, HR.out⟩
end Go.Proofs.YtjjikciggbnjmaaGreat
