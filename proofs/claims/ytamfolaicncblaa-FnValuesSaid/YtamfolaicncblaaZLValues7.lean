/- Texts of the claim LValues in one: PbA PaS PaT. Conditions: none but bounds on sizes. -/
import Derived.Test.YtamfolaicncblaaZLValues6
import Derived.Test.YtamfolaicncblaaZLValues5
import Derived.Test.YtamfolaicncblaaZLValues2
import Derived.Test.YtamfolaicncblaaZLValues4
namespace Go.Proofs.Ytamfolaicncblaa
set_option maxRecDepth 20000
set_option linter.unusedVariables false
set_option linter.unusedSimpArgs false
open Go.RowKit
set_option maxHeartbeats 1000000
theorem spanN_pos {p : UInt8 → Bool} {b : UInt8} {r : List UInt8} (h : p b = true) : 0 < spanN p (b :: r) := by simp [spanN, h]
theorem spanN_le {p : UInt8 → Bool} : ∀ l : List UInt8, spanN p l ≤ l.length
 | [] => by simp [spanN]
 | b :: r => by
  have := spanN_le (p := p) r
  unfold spanN
  split <;> simp <;> omega
theorem pSignAt_le (b : UInt8) (r : List UInt8) : (pSignAt (b :: r)).length ≤ (b :: r).length := by
 unfold pSignAt
 split
 · rename_i h; simp at h; obtain ⟨-, rfl⟩ := h; simp
 · rename_i h; simp at h; obtain ⟨-, rfl⟩ := h; simp
 · split <;> simp
 · simp
theorem numI_range (s : ByteArray) : 0 ≤ (numI s).1 ∧ (numI s).1 ≤ 9223372036854775807 := by
 unfold numI
 split
 ·
  rename_i h
  unfold numOk at h
  simp only [Bool.and_eq_true, decide_eq_true_eq] at h
  refine ⟨by simp, ?_⟩
  simp only
  omega
 · simp
theorem int_wfR {n : Int} (h : -9223372036854775808 ≤ n ∧ n ≤ 9223372036854775807) : (Lit.int .i64 n).wf = true := by
 simp [Lit.wf, IntKind.min, IntKind.max, IntKind.signed, IntKind.bits]; omega
structure OneFacts (s : ByteArray) (i : Nat) (V : GToken × Nat × Bool) : Prop where
 gt : i < V.2.1
 le : V.2.1 ≤ s.size
 kind : (Lit.int .i64 V.1.kind).wf = true
 text : V.1.text.size ≤ maxLen
 n : (Lit.int .i64 V.1.n).wf = true
 pos : (Lit.int .i64 V.1.pos).wf = true
theorem oneV_facts (s : ByteArray) (i : Nat) (hi : i < s.size) (hs : s.size ≤ 3000) (hok : (oneV (s.data.toList.drop i) i).2.2 = true) : OneFacts s i (oneV (s.data.toList.drop i) i) := by
 have hlen : (s.data.toList.drop i).length = s.size - i := by rw [List.length_drop, ba_len]
 have hm : ∀ n, (s.data.toList.drop i).length ≤ n → n ≤ maxLen → True := fun _ _ _ => trivial
 have hpos : (Lit.int .i64 (i : Int)).wf = true := int_wfR (by omega)
 have hsz : ∀ (n : Nat), (⟨((s.data.toList.drop i).take n).toArray⟩ : ByteArray).size ≤ maxLen := fun n => by
  rw [← ba_len]
  simp only [List.length_take, hlen]
  unfold maxLen
  omega
 rw [drop_cons_at s i hi] at hok hlen hsz ⊢
 unfold oneV at hok ⊢
 by_cases h1 : (smallB s[i] || largeB s[i]) = true
 · simp only [h1, if_true] at hok ⊢
   have h2 := spanN_pos (p := fun c => smallB c || largeB c) (r := s.data.toList.drop (i + 1)) h1
   have h3 := spanN_le (p := fun c => smallB c || largeB c) (s[i] :: s.data.toList.drop (i + 1))
   exact ⟨by dsimp only; omega, by dsimp only; omega, by dsimp only; split <;> decide, hsz _, (show (Lit.int .i64 0).wf = true by decide), hpos⟩
 ·
  simp only [h1, if_false, Bool.false_eq_true] at hok ⊢
  by_cases h2 : digitB s[i] = true
  · simp only [h2, if_true] at hok ⊢
    have h3 := spanN_pos (p := digitB) (r := s.data.toList.drop (i + 1)) h2
    have h4 := spanN_le (p := digitB) (s[i] :: s.data.toList.drop (i + 1))
    have h5 := numI_range ⟨((s[i] :: s.data.toList.drop (i + 1)).take (spanN digitB (s[i] :: s.data.toList.drop (i + 1)))).toArray⟩
    exact ⟨by dsimp only; omega, by dsimp only; omega, (show (Lit.int .i64 3).wf = true by decide), empty_le, int_wfR (by dsimp only; omega), hpos⟩
  ·
   simp only [h2, if_false, Bool.false_eq_true] at hok ⊢
   have h3 := pSignAt_le s[i] (s.data.toList.drop (i + 1))
   have h4 : 0 < (pSignAt (s[i] :: s.data.toList.drop (i + 1))).length := by
    cases hp : pSignAt (s[i] :: s.data.toList.drop (i + 1)) with
    | nil => rw [hp] at hok; simp at hok
    | cons a b => simp
   refine ⟨by dsimp only; omega, by dsimp only; omega, (show (Lit.int .i64 4).wf = true by decide), ?_, (show (Lit.int .i64 0).wf = true by decide), hpos⟩
   rw [← ba_len]
   dsimp only
   unfold maxLen
   omega
theorem tokN_blank (k : Nat) (b : UInt8) (r : List UInt8) (at0 : Nat) (acc : List GToken) (hb : (b == 32 || b == 10) = true) : tokN (k + 1) (b :: r) at0 acc = tokN k r (at0 + 1) acc := by
 simp only [tokN, hb, if_true]
theorem tokN_go {k : Nat} {s : ByteArray} {i : Nat} {acc ts : List GToken} (hi : i < s.size) (hb : (s[i] == 32 || s[i] == 10) = false) (h : tokN k (s.data.toList.drop i) i acc = some ts) :
 (oneV (s.data.toList.drop i) i).2.2 = true ∧ ∃ j, k = j + 1 ∧ (i ≤ (oneV (s.data.toList.drop i) i).2.1 → tokN j (s.data.toList.drop (oneV (s.data.toList.drop i) i).2.1) (oneV (s.data.toList.drop i) i).2.1 (acc ++ [(oneV (s.data.toList.drop i) i).1]) = some ts) := by
 cases k with
 | zero => simp [tokN] at h
 | succ j =>
  have hd := drop_cons_at s i hi
  have h0 := h
  rw [hd, tokN_one _ _ _ _ _ hb, ← hd] at h0
  split at h0
  · rename_i hok
    refine ⟨hok, j, rfl, fun hle => ?_⟩
    rw [List.drop_drop, show i + ((oneV (s.data.toList.drop i) i).2.1 - i) = (oneV (s.data.toList.drop i) i).2.1 by omega] at h0
    exact h0
  · cases h0
theorem tokN_skip {k : Nat} {s : ByteArray} {i : Nat} {acc ts : List GToken} (hi : i < s.size) (hb : (s[i] == 32 || s[i] == 10) = true) (h : tokN k (s.data.toList.drop i) i acc = some ts) : ∃ j, tokN j (s.data.toList.drop (i + 1)) (i + 1) acc = some ts := by
 cases k with
 | zero => simp [tokN] at h
 | succ j =>
  rw [drop_cons_at s i hi, tokN_blank _ _ _ _ _ hb] at h
  exact ⟨j, h⟩
theorem tokN_end {k : Nat} {s : ByteArray} {i : Nat} {acc ts : List GToken} (hi : s.size ≤ i) (h : tokN k (s.data.toList.drop i) i acc = some ts) : ts = acc ++ [⟨0, ⟨#[]⟩, 0, i⟩] := by
 rw [List.drop_eq_nil_of_le (by rw [ba_len]; exact hi)] at h
 cases k with
 | zero => simp [tokN] at h
 | succ j => simp [tokN] at h; exact h.symm
def zTok : Value := .agg #[.int .i64 0, .string ⟨#[]⟩, .int .i64 0, .int .i64 0]
def ToToks (ts : List GToken) (w : World) (e : Ending) (w' : World) : Prop := ∃ A c, e = .returned (.tuple #[.slice A ts.length c, .int .i64 (-1)]) ∧ Sl w' (fun b => w.heap.size ≤ b ∧ b < w'.heap.size) 4 A c (ts.map GToken.toD) ∧ Below w.heap.size w w'
theorem u8_const (a : UInt8) (n : Nat) (h : n < 256) : (((a.toNat : Nat) : Int) == (n : Int)) = (a == UInt8.ofNat n) := by
 rw [← u8_beq, UInt8.toNat_ofNat_of_lt' (by simpa using h)]
theorem l2Tokens (k : Nat) (s : ByteArray) (w : World) (hs : s.size ≤ 3000) (ts : List GToken) (h : tokN k s.data.toList 0 [] = some ts) :
 Calls Try.prog 33 #[.string s] w (ToToks ts w) := by
 have H0 := LH h
 have hd : decide (3000 < (s.size : Int)) = false := decide_eq_false (by omega)
 clear h
 obtain ⟨w0, e0⟩ : ∃ w0, w0 = w.alloc (.cells #[] 78) := ⟨_, rfl⟩
 have hz0 : w0.heap.size = w.heap.size + 1 := by rw [e0]; simp
 have E0 := LH (show Below w.heap.size w w0 by rw [e0]; exact (Below.refl _ _).alloc (Nat.le_refl _) _)
 have G0 := LH (show Grx (fun b => w.heap.size ≤ b) w0 w.heap.size 78 4 (.slice (some ⟨w.heap.size, 0, none⟩) 0 0) 0 [] from Grx.made (by rw [e0]; exact Row.new _ _ _) (Nat.le_refl _))
 go_enter Try.func33, Try.ntmps33
 refine wp_hide (fun BP hBP => ?_)
 have HBP := LH hBP
 clear hBP
 go_wp2_with fail
 rw [← e0]
 clear e0
 go_loopw [4, 5] (fun v i wr => ∃ (j f : Nat) (acc : List GToken) (A : Option Addr) (c : Nat), i = .int .i64 j ∧ v = .slice A acc.length c ∧ j ≤ s.size ∧ acc.length ≤ j ∧ Hid (tokN f (s.data.toList.drop j) j acc = some ts) ∧ Hid (Grx (fun b => w.heap.size ≤ b) wr w.heap.size 78 4 (.slice A acc.length c) acc.length (acc.map GToken.toD)) ∧ Hid (Below w.heap.size w wr)) (fun _ i _ => s.size - (intOf i).toNat)
 case atStart => exact ⟨0, k, [], _, _, by go_num, rfl, by omega, by simp, H0, G0, E0⟩
 case round =>
  clear G0 E0 H0 hz0
  obtain ⟨j, f, acc, A, c, rfl, rfl, hj, hal, HF, HG, HB⟩ := hrel
  have hzr := HB.out.size
  have hj2 : (j : Int) ≤ 3000 := by omega
  have hw1 : IntKind.i64.wrap ((j : Int) + 1) = (j : Int) + 1 := (IntWalk.i64_left _).trans (IntWalk.wrap64_in ((j : Int) + 1) (by omega))
  by_cases hlt : j < s.size
  ·
   have dl : decide ((j : Int) < (s.size : Int)) = true := decide_eq_true (by omega)
   have hlt2 : (j : Int) < (s.size : Int) := by omega
   have U32 := LH (u8_const s[j] 32 (by omega))
   have U10 := LH (u8_const s[j] 10 (by omega))
   cases h32 : (((s[j].toNat : Nat) : Int) == 32)
   ·
    cases h10 : (((s[j].toNat : Nat) : Int) == 10)
    ·
     have hbk : (s[j] == 32 || s[j] == 10) = false := by
      have a1 := U32.out; have a2 := U10.out
      rw [show (s[j] == 32) = false from a1.symm.trans h32, show (s[j] == 10) = false from a2.symm.trans h10]; rfl
     obtain ⟨hok, f', -, hnx⟩ := tokN_go hlt hbk HF.out
     have hfa := oneV_facts s j hlt hs hok
     have HO := LH (l2One s j wr hlt hs)
     unfold TokOneR at HO
     obtain ⟨⟨t, to, ok⟩, hV⟩ : ∃ V, oneV (s.data.toList.drop j) j = V := ⟨_, rfl⟩
     rw [hV] at hok hnx hfa HO
     have hto := hfa.gt
     have hto2 := hfa.le
     have HT := LH hfa
     dsimp only at hok hto hto2
     subst hok
     have HNX := LH (hnx (Nat.le_of_lt hto))
     clear hnx hfa hV hbk HF U32 U10
     unfold tokA at HO
     dsimp only at HO
     have hto3 : (to : Int) ≤ 3000 := by omega
     have HOW := LH (fun q (hq : (Value.slice A acc.length c).ownBlock = some q) => HG.out.own q hq)
     go_wp2_with fail
     refine HO.out.mono ?_
     rintro e w1 ⟨rfl, hb1⟩
     have hz1 := hb1.size
     have E1 := LH hb1
     clear hb1 HO
     obtain ⟨w2, e2, R2, hz2, K2⟩ := boxed w1 78 #[.int .i64 t.kind, .string t.text, .int .i64 t.n, .int .i64 t.pos]
     obtain ⟨w3, e3, R3, hz3, K3⟩ := boxed w2 78 #[.int .i64 t.kind, .string t.text, .int .i64 t.n, .int .i64 t.pos]
     rw [hz2] at R3
     have E3 := LH (show Below wr.heap.size wr w3 by rw [e3, e2]; exact (E1.out.alloc (by omega) _).alloc (by simp; omega) _)
     have B3 := LH (HB.out.trans (E3.out.mono (by omega)))
     have G3 := LH (HG.out.below E3.out)
     have T3 := LH (show Sl w3 (fun b => b < w3.heap.size ∧ (Value.slice A acc.length c).ownBlock ≠ some b ∧ w.heap.size ≤ b) 4 (some ⟨w1.heap.size + 1, 0, none⟩) 1 ([t].map GToken.toD) from
       Sl.ofRow R3.out (rdC_one1 (GToken.rd_mk (w := w3) (t := t) ⟨HT.out.kind, HT.out.text, HT.out.n, HT.out.pos⟩) rfl) ⟨by omega, fun e => by have := (HOW.out _ e).2; omega, by omega⟩ (by simp) (by unfold maxLen; omega))
     go_wp2_with (first | (at_builtin; rw [← e2, ← e3]; refine wpList_append_X w3 rfl (.tmp 41) (.tmp 43) 68 rfl 78 zTok 4 40 Try.underlying68 (by kernel_rfl) rfl (by omega) w.heap.size (.slice A acc.length c) acc.length _ G3.out (some ⟨w1.heap.size + 1, 0, none⟩) 1 1 _ rfl T3.out (by omega) (by unfold maxLen; omega) (by omega) rfl rfl ?_; intro A4 c4 w4 G4 hGr4; have G4h := LH G4; have B4 := LH (B3.out.trans (hGr4.below (B := w.heap.size) (by omega) (fun q hq => (HOW.out q hq).1))); clear G4 hGr4))
     obtain ⟨acc2, hac⟩ : ∃ x, x = acc ++ [t] := ⟨_, rfl⟩
     have hl2 : acc2.length = acc.length + 1 := by rw [hac]; simp
     go_roundw
     case rel => exact ⟨to, f', acc2, A4, c4, rfl, by rw [hl2], by omega, by omega, LH (by rw [hac]; exact HNX.out), LH (by rw [hl2, hac]; simpa using G4h.out), B4⟩
     case measure => simp [intOf]; omega
    ·
     have hbk : (s[j] == 32 || s[j] == 10) = true := by
      have a2 := U10.out
      rw [show (s[j] == 10) = true from a2.symm.trans h10]; simp
     obtain ⟨f', hnx⟩ := tokN_skip hlt hbk HF.out
     have HNX := LH hnx
     clear hnx hbk U32 U10
     go_wp2_with fail
     go_roundw
     case rel => exact ⟨j + 1, f', acc, A, c, by go_num, rfl, by omega, by omega, HNX, HG, HB⟩
     case measure => simp [intOf]; omega
   ·
    have hbk : (s[j] == 32 || s[j] == 10) = true := by
     have a2 := U32.out
     rw [show (s[j] == 32) = true from a2.symm.trans h32]; simp
    obtain ⟨f', hnx⟩ := tokN_skip hlt hbk HF.out
    have HNX := LH hnx
    clear hnx hbk U32 U10
    go_wp2_with fail
    go_roundw
    case rel => exact ⟨j + 1, f', acc, A, c, by go_num, rfl, by omega, by omega, HNX, HG, HB⟩
    case measure => simp [intOf]; omega
  ·
   have dl : decide ((j : Int) < (s.size : Int)) = false := decide_eq_false (by omega)
   have hje : j = s.size := by omega
   have HTS := LH (show ts = acc ++ [⟨0, ⟨#[]⟩, 0, s.size⟩] by rw [← hje]; exact tokN_end (by omega) HF.out)
   clear hje
   have HOW := LH (fun q (hq : (Value.slice A acc.length c).ownBlock = some q) => HG.out.own q hq)
   obtain ⟨w3, e3, R3, hz3, K3⟩ := boxed wr 78 #[.int .i64 0, .string ⟨#[]⟩, .int .i64 0, .int .i64 s.size]
   have E3 := LH (show Below wr.heap.size wr w3 by rw [e3]; exact (Below.refl _ _).alloc (Nat.le_refl _) _)
   have B3 := LH (HB.out.trans (E3.out.mono (by omega)))
   have G3 := LH (HG.out.below E3.out)
   have T3 := LH (show Sl w3 (fun b => b < w3.heap.size ∧ (Value.slice A acc.length c).ownBlock ≠ some b ∧ w.heap.size ≤ b) 4 (some ⟨wr.heap.size, 0, none⟩) 1 ([(⟨0, ⟨#[]⟩, 0, s.size⟩ : GToken)].map GToken.toD) from
     Sl.ofRow R3.out (rdC_one1 (GToken.rd_mk (w := w3) (t := ⟨0, ⟨#[]⟩, 0, s.size⟩) ⟨(show (Lit.int .i64 0).wf = true by decide), empty_le, (show (Lit.int .i64 0).wf = true by decide), int_wfR (by dsimp only; omega)⟩) rfl) ⟨by omega, fun e => by have := (HOW.out _ e).2; omega, by omega⟩ (by simp) (by unfold maxLen; omega))
   go_wp2_with (first | (at_builtin; rw [← e3]; refine wpList_append_X w3 rfl (.tmp 46) (.tmp 50) 68 rfl 78 zTok 4 40 Try.underlying68 (by kernel_rfl) rfl (by omega) w.heap.size (.slice A acc.length c) acc.length _ G3.out (some ⟨wr.heap.size, 0, none⟩) 1 1 _ rfl T3.out (by omega) (by unfold maxLen; omega) (by omega) rfl rfl ?_; intro A4 c4 w4 G4 hGr4; have G4h := LH G4; have B4 := LH (B3.out.trans (hGr4.below (B := w.heap.size) (by omega) (fun q hq => (HOW.out q hq).1))); clear G4 hGr4))
   show BP _ _
   rw [HBP.out]
   go_ret2
   have hl2 : ts.length = acc.length + 1 := by rw [HTS.out]; simp
   refine ⟨A4, c4, by rw [hl2]; rfl, ?_, B4.out⟩
   have hsl := sl_of_grx G4h.out (fun b h => h)
   rw [HTS.out, List.map_append]
   exact hsl.keep fun b hb => ⟨⟨hb.2, hb.1⟩, rfl⟩
set_option maxHeartbeats 2000000
theorem pVar_some {st : PSt} {s : ByteArray} {j : Nat} (hj : j < st.vars.length) (he : (st.vars[j].toList == s.toList) = true) (hn : ∀ q (hq : q < st.vars.length), q < j → (st.vars[q].toList == s.toList) = false) : pVar s st = ((j : Int), st) := by
 have h : st.vars.findIdx? (fun v => v.data.toList == s.data.toList) = some j := by
  rw [List.findIdx?_eq_some_iff_getElem]
  refine ⟨hj, by rw [bytes_beq] at he; exact he, fun q hq => ?_⟩
  have := hn q (by omega) hq
  rw [bytes_beq] at this
  simp [this]
 unfold pVar
 rw [h]
theorem pVar_none {st : PSt} {s : ByteArray} (hn : ∀ q (hq : q < st.vars.length), (st.vars[q].toList == s.toList) = false) : pVar s st = (0, { st with nov := true }) := by
 have h : st.vars.findIdx? (fun v => v.data.toList == s.data.toList) = none := by
  rw [List.findIdx?_eq_none_iff]
  intro x hx
  obtain ⟨q, hq, rfl⟩ := List.getElem_of_mem hx
  have := hn q hq
  rw [bytes_beq] at this
  exact this
 unfold pVar
 rw [h]
theorem l3Var (ts : List GToken) (g : Nat) (L : Option Addr) (cl : Nat) (V : Option Addr) (cv : Nat) (st : PSt) (w : World) (h : PCur ts g L cl V cv st w) (s : ByteArray) :
 Calls Try.prog 77 #[.pointer (some ⟨g, 0, none⟩), .string s] w fun e w' => e = .returned (.int .i64 (pVar s st).1) ∧ Mv ts g L cl V cv st.vars (pVar s st).2 w w' := by
 have hlen : st.vars.length ≤ 9223372036854775807 := by simpa using h.vars.len
 have HC := LH h
 have HR := LH h.row
 have hca := fun i => HR.out.cell i
 have hfa := fun i => HR.out.frozen i
 have hgl := HR.out.lt
 clear h
 go_enter Try.func77, Try.ntmps77
 go_wp2_with fail
 go_loop [5] (fun i => ∃ (j : Nat), j ≤ st.vars.length ∧ i = .int .i64 j ∧ Hid (∀ q (hq : q < st.vars.length), q < j → (st.vars[q].toList == s.toList) = false)) (fun i => st.vars.length - (intOf i).toNat)
 case atStart => exact ⟨0, by omega, by go_num, LH fun q _ hq => by omega⟩
 case round =>
  obtain ⟨j, hj, rfl, Hn⟩ := hrel
  by_cases hlt : j < st.vars.length
  ·
   obtain ⟨b, off, hV, hSb, g0, k0⟩ := HC.out.vars.strAt j hlt
   subst hV
   cases he : (st.vars[j].toList == s.toList)
   ·
    have he2 := LH he
    go_wp2_with fail
    go_round
    case rel => exact ⟨j + 1, by omega, by go_num, LH fun q hq hlt2 => by
      rcases Nat.lt_or_ge q j with h1 | h1
      · exact Hn.out q hq h1
      · obtain rfl : q = j := by omega
        exact he2.out⟩
    case measure => simp [intOf]; omega
   · have hm := LH (pVar_some hlt he Hn.out)
     go_wp2_with fail
     go_ret
     exact ⟨by rw [hm.out]; rfl, by rw [hm.out]; exact HC.out.mv⟩
  ·
   have hm := LH (pVar_none (st := st) (s := s) fun q hq => Hn.out q hq (by omega))
   have hjl : j = st.vars.length := by omega
   have Hj := LH hjl
   clear hjl
   go_wp2_with fail
   go_ret
   refine ⟨by rw [hm.out]; rfl, ?_⟩
   rw [hm.out]
   exact ⟨(Bx.refl g w).set (p := ⟨g, 4, none⟩) (.inl rfl) _, HR.out.set 4 _, rfl, HC.out.pos⟩
theorem wfNat' (n : Nat) (h : n ≤ 9223372036854775807) : (Lit.int .i64 (n : Int)).wf = true := by
 simp [Lit.wf, IntKind.min, IntKind.max, IntKind.signed, IntKind.bits]; omega
theorem GTy.leaf {w : World} {S : Nat → Prop} {op n : Int} {s : ByteArray} (h1 : (Lit.int .i64 op).wf = true) (h2 : (Lit.int .i64 n).wf = true) (h3 : s.size ≤ maxLen) : GTy.At w S none 0 (.mk op n s []) := ⟨h1, h2, h3, Sl.nil (by unfold maxLen; omega)⟩
theorem PCur.pvar_wf {ts : List GToken} {g : Nat} {L : Option Addr} {cl : Nat} {V : Option Addr} {cv : Nat} {st : PSt} {w : World} (h : PCur ts g L cl V cv st w) (s : ByteArray) : (Lit.int .i64 (pVar s st).1).wf = true := by
 have hlen : st.vars.length ≤ 9223372036854775807 := by simpa using h.vars.len
 unfold pVar
 split
 · rename_i i hi
   obtain ⟨hlt, -⟩ := List.findIdx?_eq_some_iff_getElem.1 hi
   exact wfNat' i (by omega)
 · exact (show (Lit.int .i64 0).wf = true by decide)
theorem l3TyAtom (k : Nat) (hE : OkT 78 pTy k) : OkT 70 pTyAtom (k + 1) := by
 intro ts g L cl V cv st w h n st' hp
 have HE := LH hE
 clear hE
 obtain ⟨b0, off0, hL, hbt, -, -, -, -, hat⟩ := h.now
 clear hL hbt
 obtain ⟨t, ht⟩ : ∃ t, pNow ts st = t := ⟨_, rfl⟩
 rw [ht] at hat
 have HAT := LH hat
 have HT := LH ht
 clear hat
 have HC := LH h
 have M0 := LH h.mv
 have hgl := h.row.lt
 clear h
 have hcu0 := fun i => M0.out.row.cell i
 have HN := LH (l3Now ts g L cl V cv st w HC.out)
 rw [ht] at HN
 clear ht
 go_enter Try.func70, Try.ntmps70
 refine wp_hide (fun BP hBP => ?_)
 have HBP := LH hBP
 clear hBP
 go_wp2_with fail
 clear hcu0
 obtain ⟨w1, e1, Rr1, hz1, K1⟩ := boxed w 96 #[.int .i64 0, .int .i64 0, .string ⟨#[]⟩, .slice none 0 0]
 have M1 := LH (M0.out.chg K1.out (by omega) (by omega))
 rw [← e1]
 clear e1
 have hcu1 := fun i => M1.out.row.cell i
 have hlu1 := M1.out.row.lt
 have hcr1 := fun i => Rr1.out.cell i
 have hlr1 := Rr1.out.lt
 have HN1 := LH (l3Now ts g L cl V cv st w1 (M1.out.cur HC.out))
 rw [HT.out] at HN1
 clear HN
 refine (HN1.out).mono ?_
 clear hcu1 hlu1 hcr1 hlr1
 rintro e w2 ⟨rfl, hb2⟩
 have hz2 := hb2.size
 have K2 := LH (Bx.of_below (g := g) hb2 (Nat.le_refl _))
 have Rr2 := LH (K2.out.row Rr1.out (by omega))
 have M2 := LH (M1.out.below hb2)
 clear Rr1 M1
 clear hb2
 have hcu2 := fun i => M2.out.row.cell i
 have hlu2 := M2.out.row.lt
 have hcr2 := fun i => Rr2.out.cell i
 have hlr2 := Rr2.out.lt
 clear HN1
 go_wp2_with fail
 clear hcu2 hlu2 hcr2 hlr2
 obtain ⟨w3, e3, Rt3, hz3, K3⟩ := boxed w2 78 #[.int .i64 t.kind, .string t.text, .int .i64 t.n, .int .i64 t.pos]
 have Rr3 := LH (K3.out.row Rr2.out (by omega))
 have M3 := LH (M2.out.chg K3.out (by omega) (by omega))
 clear Rr2 M2
 rw [← e3]
 clear e3
 have hcu3 := fun i => M3.out.row.cell i
 have hlu3 := M3.out.row.lt
 have hcr3 := fun i => Rr3.out.cell i
 have hlr3 := Rr3.out.lt
 have hct3 := fun i => Rt3.out.cell i
 have hlt3 := Rt3.out.lt
 refine (l3Name ts g L cl V cv st w3 (M3.out.cur HC.out)).mono ?_
 clear hcu3 hlu3 hcr3 hlr3 hct3 hlt3
 rintro e w4 ⟨rfl, hb4⟩
 have hz4 := hb4.size
 have K4 := LH (Bx.of_below (g := g) hb4 (Nat.le_refl _))
 have Rr4 := LH (K4.out.row Rr3.out (by omega))
 have Rt4 := LH (K4.out.row Rt3.out (by omega))
 have M4 := LH (M3.out.below hb4)
 clear Rr3 Rt3 M3
 clear hb4
 have hcu4 := fun i => M4.out.row.cell i
 have hlu4 := M4.out.row.lt
 have hcr4 := fun i => Rr4.out.cell i
 have hlr4 := Rr4.out.lt
 have hct4 := fun i => Rt4.out.cell i
 have hlt4 := Rt4.out.lt
 cases hn : pName ts st
 ·
  go_wp2_with fail
  refine (l3Con ts g L cl V cv st w4 (M4.out.cur HC.out)).mono ?_
  clear hcu4 hlu4 hcr4 hlr4 hct4 hlt4
  rintro e w5 ⟨rfl, hb5⟩
  have hz5 := hb5.size
  have K5 := LH (Bx.of_below (g := g) hb5 (Nat.le_refl _))
  have Rr5 := LH (K5.out.row Rr4.out (by omega))
  have Rt5 := LH (K5.out.row Rt4.out (by omega))
  have M5 := LH (M4.out.below hb5)
  clear Rr4 Rt4 M4
  clear hb5
  have hcu5 := fun i => M5.out.row.cell i
  have hlu5 := M5.out.row.lt
  have hcr5 := fun i => Rr5.out.cell i
  have hlr5 := Rr5.out.lt
  have hct5 := fun i => Rt5.out.cell i
  have hlt5 := Rt5.out.lt
  cases hc : pCon ts st
  ·
   cases hb : decide (st.bad < 0)
   case' true => cases hk : (t.kind == 2)
   case' true.true =>
    simp [pTyAtom, hn, hc, hb, hk, HT.out] at hp
    obtain ⟨rfl, rfl⟩ := hp
    go_wp2_with fail
    refine (l3Next ts g L cl V cv st w5 (M5.out.cur HC.out)).mono ?_
    clear hcu5 hlu5 hcr5 hlr5 hct5 hlt5
    rintro e w6 ⟨rfl, hm6⟩
    replace hm6 : Mv ts g L cl V cv st.vars (pNext ts st) w5 w6 := hm6
    have hz6 := hm6.size
    have K6 := LH hm6.bx
    have Rr6 := LH (K6.out.row Rr5.out (by omega))
    have Rt6 := LH (K6.out.row Rt5.out (by omega))
    have M6 := LH (M5.out.trans hm6)
    clear Rr5 Rt5 M5
    clear hm6
    have hcu6 := fun i => M6.out.row.cell i
    have hlu6 := M6.out.row.lt
    have hcr6 := fun i => Rr6.out.cell i
    have hfr6 := fun i => Rr6.out.frozen i
    have hlr6 := Rr6.out.lt
    have hct6 := fun i => Rt6.out.cell i
    have hlt6 := Rt6.out.lt
    go_wp2_with fail
    clear hcu6 hlu6 hcr6 hfr6 hlr6 hct6 hlt6
    obtain ⟨w7, e7, RN7, hz7, K7⟩ := stored4 Rr6.out (.int .i64 1) (.int .i64 0) (.string ⟨#[]⟩) (.slice none 0 0)
    have Rt7 := LH (K7.out.row Rt6.out (by omega))
    have M7 := LH (M6.out.chg K7.out (by omega) (by omega))
    clear Rt6 M6
    clear Rr6
    rw [← e7]
    clear e7
    have hcu7 := fun i => M7.out.row.cell i
    have hlu7 := M7.out.row.lt
    have hct7 := fun i => Rt7.out.cell i
    have hlt7 := Rt7.out.lt
    have hcr7 := fun i => RN7.out.cell i
    have hlr7 := RN7.out.lt
    show BP _ _
    rw [HBP.out]
    refine bodyPost_ret (v := .agg #[.int .i64 1, .int .i64 0, .string ⟨#[]⟩, .slice none 0 0]) (by simp [results, Try.results70, go_sem, hcr7]) rfl ?_
    exact ⟨none, 0, rfl, GTy.leaf (by decide) (by decide) empty_le, M7.out⟩
   all_goals
    go_wp2_with fail
    obtain ⟨s1, hs1⟩ : ∃ s1, pTake ts [40] st = s1 := ⟨_, rfl⟩
    refine (l3Take ts g L cl V cv st w5 (M5.out.cur HC.out) ⟨#[40]⟩).mono ?_
    clear hcu5 hlu5 hcr5 hlr5 hct5 hlt5
    rintro e w6 ⟨rfl, hm6⟩
    replace hm6 : Mv ts g L cl V cv st.vars (pTake ts [40] st) w5 w6 := hm6
    have hz6 := hm6.size
    have K6 := LH hm6.bx
    have Rr6 := LH (K6.out.row Rr5.out (by omega))
    have Rt6 := LH (K6.out.row Rt5.out (by omega))
    have M6 := LH (M5.out.trans hm6)
    clear Rr5 Rt5 M5
    clear hm6
    have hcu6 := fun i => M6.out.row.cell i
    have hlu6 := M6.out.row.lt
    have hcr6 := fun i => Rr6.out.cell i
    have hfr6 := fun i => Rr6.out.frozen i
    have hlr6 := Rr6.out.lt
    have hct6 := fun i => Rt6.out.cell i
    have hlt6 := Rt6.out.lt
    rw [hs1] at M6
    clear hcu6 hlu6 hcr6 hfr6 hlr6 hct6 hlt6
    have hcu6 := fun i => M6.out.row.cell i
    have hlu6 := M6.out.row.lt
    have hcr6 := fun i => Rr6.out.cell i
    have hfr6 := fun i => Rr6.out.frozen i
    have hlr6 := Rr6.out.lt
    have hct6 := fun i => Rt6.out.cell i
    have hlt6 := Rt6.out.lt
    have HS1 := LH hs1
    by_cases hb1 : 0 ≤ s1.bad
    ·
     simp [pTyAtom, *, HT.out] at hp
     obtain ⟨rfl, rfl⟩ := hp
     have d1 : decide (0 ≤ s1.bad) = true := decide_eq_true hb1
     go_wp2_with fail
     clear hcu6 hlu6 hcr6 hfr6 hlr6 hct6 hlt6
     obtain ⟨w7, e7, RN7, hz7, K7⟩ := stored4 Rr6.out (.int .i64 0) (.int .i64 0) (.string ⟨#[]⟩) (.slice none 0 0)
     have Rt7 := LH (K7.out.row Rt6.out (by omega))
     have M7 := LH (M6.out.chg K7.out (by omega) (by omega))
     clear Rt6 M6
     clear Rr6
     rw [← e7]
     clear e7
     have hcu7 := fun i => M7.out.row.cell i
     have hlu7 := M7.out.row.lt
     have hct7 := fun i => Rt7.out.cell i
     have hlt7 := Rt7.out.lt
     have hcr7 := fun i => RN7.out.cell i
     have hlr7 := RN7.out.lt
     show BP _ _
     rw [HBP.out]
     refine bodyPost_ret (v := .agg #[.int .i64 0, .int .i64 0, .string ⟨#[]⟩, .slice none 0 0]) (by simp [results, Try.results70, go_sem, hcr7]) rfl ?_
     exact ⟨none, 0, rfl, GTy.leaf (by decide) (by decide) empty_le, M7.out⟩
    ·
     simp [pTyAtom, *, HT.out] at hp
     obtain ⟨n1, s2, hq, rfl, rfl⟩ := hp
     have d1 : decide (0 ≤ s1.bad) = false := decide_eq_false hb1
     clear hb1 hs1
     go_wp2_with fail
     refine (HE.out ts g L cl V cv s1 w6 (M6.out.cur HC.out) n1 s2 hq).mono ?_
     clear hcu6 hlu6 hcr6 hfr6 hlr6 hct6 hlt6
     rintro e w7 ⟨Ax, cx, rfl, ha7, hm7⟩
     have hz7 := hm7.size
     have K7 := LH hm7.bx
     have DN7 := LH ha7
     have Rr7 := LH (K7.out.row Rr6.out (by omega))
     have Rt7 := LH (K7.out.row Rt6.out (by omega))
     have M7 := LH (M6.out.trans hm7)
     clear Rr6 Rt6 M6
     clear hm7 ha7
     have hcu7 := fun i => M7.out.row.cell i
     have hlu7 := M7.out.row.lt
     have hcr7 := fun i => Rr7.out.cell i
     have hlr7 := Rr7.out.lt
     have hct7 := fun i => Rt7.out.cell i
     have hlt7 := Rt7.out.lt
     go_wp2_with fail
     clear hcu7 hlu7 hcr7 hlr7 hct7 hlt7
     obtain ⟨w8, e8, Rx8, hz8, K8⟩ := boxed w7 96 #[.int .i64 n1.op, .int .i64 n1.n, .string n1.s, .slice Ax n1.kids.length cx]
     have Rr8 := LH (K8.out.row Rr7.out (by omega))
     have Rt8 := LH (K8.out.row Rt7.out (by omega))
     have Dx8 := LH (DN7.out.keep fun b hb => K8.out.kq hb (by have h1 := hb.1; have h2 := hb.2; omega))
     have M8 := LH (M7.out.chg K8.out (by omega) (by omega))
     clear Rr7 Rt7 DN7 M7
     rw [← e8]
     clear e8
     have hcu8 := fun i => M8.out.row.cell i
     have hlu8 := M8.out.row.lt
     have hcr8 := fun i => Rr8.out.cell i
     have hlr8 := Rr8.out.lt
     have hct8 := fun i => Rt8.out.cell i
     have hlt8 := Rt8.out.lt
     have hcx8 := fun i => Rx8.out.cell i
     have hlx8 := Rx8.out.lt
     refine (l3Take ts g L cl V cv s2 w8 (M8.out.cur HC.out) ⟨#[41]⟩).mono ?_
     clear hcu8 hlu8 hcr8 hlr8 hct8 hlt8 hcx8 hlx8
     rintro e w9 ⟨rfl, hm9⟩
     replace hm9 : Mv ts g L cl V cv s2.vars (pTake ts [41] s2) w8 w9 := hm9
     have hz9 := hm9.size
     have K9 := LH hm9.bx
     have Rr9 := LH (K9.out.row Rr8.out (by omega))
     have Rt9 := LH (K9.out.row Rt8.out (by omega))
     have Rx9 := LH (K9.out.row Rx8.out (by omega))
     have Dx9 := LH (Dx8.out.keep fun b hb => K9.out.kq hb (by have h1 := hb.1; have h2 := hb.2; omega))
     have M9 := LH (M8.out.trans hm9)
     clear Rr8 Rt8 Rx8 Dx8 M8
     clear hm9
     have hcu9 := fun i => M9.out.row.cell i
     have hlu9 := M9.out.row.lt
     have hcr9 := fun i => Rr9.out.cell i
     have hfr9 := fun i => Rr9.out.frozen i
     have hlr9 := Rr9.out.lt
     have hct9 := fun i => Rt9.out.cell i
     have hlt9 := Rt9.out.lt
     have hcx9 := fun i => Rx9.out.cell i
     have hlx9 := Rx9.out.lt
     go_wp2_with fail
     clear hcu9 hlu9 hcr9 hfr9 hlr9 hct9 hlt9 hcx9 hlx9
     obtain ⟨w10, e10, RN10, hz10, K10⟩ := stored4 Rr9.out (.int .i64 n1.op) (.int .i64 n1.n) (.string n1.s) (.slice Ax n1.kids.length cx)
     have Rt10 := LH (K10.out.row Rt9.out (by omega))
     have Rx10 := LH (K10.out.row Rx9.out (by omega))
     have Dx10 := LH (Dx9.out.keep fun b hb => K10.out.kq hb (by have h1 := hb.1; have h2 := hb.2; omega))
     have M10 := LH (M9.out.chg K10.out (by omega) (by omega))
     clear Rt9 Rx9 Dx9 M9
     clear Rr9
     rw [← e10]
     clear e10
     have hcu10 := fun i => M10.out.row.cell i
     have hlu10 := M10.out.row.lt
     have hct10 := fun i => Rt10.out.cell i
     have hlt10 := Rt10.out.lt
     have hcx10 := fun i => Rx10.out.cell i
     have hlx10 := Rx10.out.lt
     have hcr10 := fun i => RN10.out.cell i
     have hlr10 := RN10.out.lt
     show BP _ _
     rw [HBP.out]
     refine bodyPost_ret (v := .agg #[.int .i64 n1.op, .int .i64 n1.n, .string n1.s, .slice Ax n1.kids.length cx]) (by simp [results, Try.results70, go_sem, hcr10]) rfl ?_
     exact ⟨Ax, cx, rfl, Dx10.out.keep fun b hb => ⟨⟨by have h1 := hb.1; have h2 := hb.2; omega, by have h1 := hb.1; have h2 := hb.2; omega⟩, rfl⟩, M10.out⟩
  ·
   simp [pTyAtom, hn, hc, HT.out] at hp
   obtain ⟨rfl, rfl⟩ := hp
   go_wp2_with fail
   refine (l3Next ts g L cl V cv st w5 (M5.out.cur HC.out)).mono ?_
   clear hcu5 hlu5 hcr5 hlr5 hct5 hlt5
   rintro e w6 ⟨rfl, hm6⟩
   replace hm6 : Mv ts g L cl V cv st.vars (pNext ts st) w5 w6 := hm6
   have hz6 := hm6.size
   have K6 := LH hm6.bx
   have Rr6 := LH (K6.out.row Rr5.out (by omega))
   have Rt6 := LH (K6.out.row Rt5.out (by omega))
   have M6 := LH (M5.out.trans hm6)
   clear Rr5 Rt5 M5
   clear hm6
   have hcu6 := fun i => M6.out.row.cell i
   have hlu6 := M6.out.row.lt
   have hcr6 := fun i => Rr6.out.cell i
   have hfr6 := fun i => Rr6.out.frozen i
   have hlr6 := Rr6.out.lt
   have hct6 := fun i => Rt6.out.cell i
   have hlt6 := Rt6.out.lt
   go_wp2_with fail
   clear hcu6 hlu6 hcr6 hfr6 hlr6 hct6 hlt6
   obtain ⟨w7, e7, RN7, hz7, K7⟩ := stored4 Rr6.out (.int .i64 4) (.int .i64 0) (.string t.text) (.slice none 0 0)
   have Rt7 := LH (K7.out.row Rt6.out (by omega))
   have M7 := LH (M6.out.chg K7.out (by omega) (by omega))
   clear Rt6 M6
   clear Rr6
   rw [← e7]
   clear e7
   have hcu7 := fun i => M7.out.row.cell i
   have hlu7 := M7.out.row.lt
   have hct7 := fun i => Rt7.out.cell i
   have hlt7 := Rt7.out.lt
   have hcr7 := fun i => RN7.out.cell i
   have hlr7 := RN7.out.lt
   show BP _ _
   rw [HBP.out]
   refine bodyPost_ret (v := .agg #[.int .i64 4, .int .i64 0, .string t.text, .slice none 0 0]) (by simp [results, Try.results70, go_sem, hcr7]) rfl ?_
   exact ⟨none, 0, rfl, GTy.leaf (by decide) (by decide) HAT.out.2.1, M7.out⟩
 ·
  simp [pTyAtom, hn, HT.out] at hp
  obtain ⟨hn1, hst1⟩ := hp
  have HNN := LH hn1
  have HST := LH hst1
  clear hn1 hst1
  go_wp2_with fail
  refine (l3Next ts g L cl V cv st w4 (M4.out.cur HC.out)).mono ?_
  clear hcu4 hlu4 hcr4 hlr4 hct4 hlt4
  rintro e w5 ⟨rfl, hm5⟩
  replace hm5 : Mv ts g L cl V cv st.vars (pNext ts st) w4 w5 := hm5
  have hz5 := hm5.size
  have K5 := LH hm5.bx
  have Rr5 := LH (K5.out.row Rr4.out (by omega))
  have Rt5 := LH (K5.out.row Rt4.out (by omega))
  have M5 := LH (M4.out.trans hm5)
  clear Rr4 Rt4 M4
  clear hm5
  have hcu5 := fun i => M5.out.row.cell i
  have hlu5 := M5.out.row.lt
  have hcr5 := fun i => Rr5.out.cell i
  have hlr5 := Rr5.out.lt
  have hct5 := fun i => Rt5.out.cell i
  have hlt5 := Rt5.out.lt
  go_wp2_with fail
  have HWF := LH ((M5.out.cur HC.out).pvar_wf t.text)
  refine (l3Var ts g L cl V cv (pNext ts st) w5 (M5.out.cur HC.out) t.text).mono ?_
  clear hcu5 hlu5 hcr5 hlr5 hct5 hlt5
  rintro e w6 ⟨rfl, hm6⟩
  replace hm6 : Mv ts g L cl V cv (pNext ts st).vars ((pVar t.text (pNext ts st)).2) w5 w6 := hm6
  have hz6 := hm6.size
  have K6 := LH hm6.bx
  have Rr6 := LH (K6.out.row Rr5.out (by omega))
  have Rt6 := LH (K6.out.row Rt5.out (by omega))
  have M6 := LH (M5.out.trans hm6)
  clear Rr5 Rt5 M5
  clear hm6
  have hcu6 := fun i => M6.out.row.cell i
  have hlu6 := M6.out.row.lt
  have hcr6 := fun i => Rr6.out.cell i
  have hfr6 := fun i => Rr6.out.frozen i
  have hlr6 := Rr6.out.lt
  have hct6 := fun i => Rt6.out.cell i
  have hlt6 := Rt6.out.lt
  go_wp2_with fail
  clear hcu6 hlu6 hcr6 hfr6 hlr6 hct6 hlt6
  obtain ⟨w7, e7, RN7, hz7, K7⟩ := stored4 Rr6.out (.int .i64 2) (.int .i64 (pVar t.text (pNext ts st)).1) (.string ⟨#[]⟩) (.slice none 0 0)
  have Rt7 := LH (K7.out.row Rt6.out (by omega))
  have M7 := LH (M6.out.chg K7.out (by omega) (by omega))
  clear Rt6 M6
  clear Rr6
  rw [← e7]
  clear e7
  have hcu7 := fun i => M7.out.row.cell i
  have hlu7 := M7.out.row.lt
  have hct7 := fun i => Rt7.out.cell i
  have hlt7 := Rt7.out.lt
  have hcr7 := fun i => RN7.out.cell i
  have hlr7 := RN7.out.lt
  obtain rfl := HNN.out
  obtain rfl := HST.out
  show BP _ _
  rw [HBP.out]
  refine bodyPost_ret (v := .agg #[.int .i64 2, .int .i64 (pVar t.text (pNext ts st)).1, .string ⟨#[]⟩, .slice none 0 0]) (by simp [results, Try.results70, go_sem, hcr7]) rfl ?_
  exact ⟨none, 0, rfl, GTy.leaf (by decide) HWF.out empty_le, M7.out⟩
end Go.Proofs.Ytamfolaicncblaa
