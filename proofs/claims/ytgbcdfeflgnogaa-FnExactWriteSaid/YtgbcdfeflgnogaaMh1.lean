/- Several texts of this claim in one: JoinL WrI0 WrI1 WrI2 WrI3 WrI4 WrI5 WrI6 WrI. Conditions: none but bounds on sizes. -/
import Derived.Test.YtgbcdfeflgnogaaMh4
import Derived.Shelf.Strings.OnBuilder
import Derived.Test.YtgbcdfeflgnogaaUp
import Derived.Test.YtgbcdfeflgnogaaAppS
import Derived.Test.YtgbcdfeflgnogaaTyText
import Derived.Deep.RegionHeld3
import Derived.Test.YtgbcdfeflgnogaaDigits
import Derived.Test.YtgbcdfeflgnogaaTail
/- strings.Join, laid in this program. Conditions: none but a bound on the lengths. -/
namespace Go.Proofs.Ytgbcdfeflgnogaa
open Go.RowKit Go.Shelf
set_option linter.unusedVariables false

def joinRen : Go.Shelf.Ren := ⟨fun | 156 => 167 | 165 => 232 | 166 => 233 | 169 => 234 | 240 => 288 | 241 => 289 | 276 => 317 | 277 => 318 | n => n, fun | 31 => 202 | 9 => 9 | 3 => 3 | 4 => 4 | 0 => 0 | 20 => 20 | 72 => 248 | 76 => 252 | 70 => 246 | 37 => 55 | 75 => 251 | 127 => 298 | 164 => 317 | 5 => 5 | 80 => 254 | n => n, fun | n => n⟩
theorem joinLays : Go.Proofs.Lays.n156 Try.prog joinRen :=
  {
    mixed := by kernel_rfl
    f156 := Try.func167.trans (congrArg some (by kernel_rfl))
    f165 := Try.func232.trans (congrArg some (by kernel_rfl))
    f166 := Try.func233.trans (congrArg some (by kernel_rfl))
    f169 := Try.func234.trans (congrArg some (by kernel_rfl))
    f240 := Try.func288.trans (congrArg some (by kernel_rfl))
    f241 := Try.func289.trans (congrArg some (by kernel_rfl))
    f276 := Try.func317.trans (congrArg some (by kernel_rfl))
    f277 := Try.func318.trans (congrArg some (by kernel_rfl))
    t0 := Try.underlying0
    a0 := Try.isAgg0
    z0 := Try.sizeOf0
    v0 := Try.zeroValue0
    t3 := Try.underlying3
    a3 := Try.isAgg3
    z3 := Try.sizeOf3
    v3 := Try.zeroValue3
    t4 := Try.underlying4
    a4 := Try.isAgg4
    z4 := Try.sizeOf4
    v4 := Try.zeroValue4
    t9 := Try.underlying9
    a9 := Try.isAgg9
    z9 := Try.sizeOf9
    v9 := Try.zeroValue9
    t20 := Try.underlying20
    a20 := Try.isAgg20
    z20 := Try.sizeOf20
    v20 := Try.zeroValue20
    t31 := Try.underlying202
    a31 := Try.isAgg202
    z31 := Try.sizeOf202
    v31 := Try.zeroValue202
    t37 := Try.underlying55
    a37 := Try.isAgg55
    z37 := Try.sizeOf55
    v37 := Try.zeroValue55
    t70 := Try.underlying246
    a70 := Try.isAgg246
    z70 := Try.sizeOf246
    v70 := Try.zeroValue246
    t72 := Try.underlying248
    a72 := Try.isAgg248
    z72 := Try.sizeOf248
    v72 := Try.zeroValue248
    t75 := Try.underlying251
    a75 := Try.isAgg251
    z75 := Try.sizeOf251
    v75 := Try.zeroValue251
    t76 := Try.underlying252
    a76 := Try.isAgg252
    z76 := Try.sizeOf252
    v76 := Try.zeroValue252
    t127 := Try.underlying298
    a127 := Try.isAgg298
    z127 := Try.sizeOf298
    v127 := Try.zeroValue298
    t164 := Try.underlying317
    a164 := Try.isAgg317
    z164 := Try.sizeOf317
    v164 := Try.zeroValue317 }
theorem joinExtra : Builder.Extra Try.prog joinRen :=
  {
    sizeBuilder := by kernel_rfl
    liesBuilder := by kernel_rfl
    t5 := Try.underlying5
    a5 := Try.isAgg5
    z5 := Try.sizeOf5
    v5 := Try.zeroValue5
    infoByte := by kernel_rfl
    cellsByte := by kernel_rfl
    sizeByte := by kernel_rfl
    neB5 := by decide }

theorem joinB_len {sep : ByteArray} {l : List ByteArray} : (Lib.join (l.map (·.data.toList)) sep.data.toList).length = (joinB sep l).size := by
  rw [← joinB_lib]; simp [ByteArray.size]
theorem implJoin (bk o c : Nat) (xs : List ByteArray) (sep : ByteArray) (w : World) (hcells : ∀ (j : Nat) (h : j < xs.length), w.cell? ⟨bk, o + j, none⟩ = some (.string xs[j])) (hbk : bk < w.heap.size) (hN : xs.length ≤ 140737488355328) (hcap : xs.length ≤ c) (hlen : (joinB sep xs).size ≤ 140737488355328) :
    Calls Try.prog 167 #[.slice (some ⟨bk, o, none⟩) xs.length c, .string sep] w fun e w' => e = .returned (.string (joinB sep xs)) ∧ Below w.heap.size w w' := by
  have h := Any.strings_Join joinLays joinExtra bk o c xs sep w (fun j x hx => by
    obtain ⟨hj, rfl⟩ := List.getElem?_eq_some_iff.1 hx
    exact hcells j hj) hbk hN hcap (by rw [joinB_len]; exact hlen)
  rw [joinB_lib] at h
  exact h
end Go.Proofs.Ytgbcdfeflgnogaa

/- Small parts of the program's write. Conditions: what the program holds is at most 1048576. -/
namespace Go.Proofs.Ytgbcdfeflgnogaa
open Go.RowKit Go.BigFrame
set_option linter.unusedVariables false
set_option linter.unusedSimpArgs false
set_option maxHeartbeats 4000000

theorem Sl.strAtW {w : World} {S : Nat → Prop} {A : Option Addr} {c : Nat} {l : List ByteArray} (h : Sl w S 1 A c (l.map D.str)) (i : Nat) (hi : i < l.length) :
    ∃ b off, A = some ⟨b, off, none⟩ ∧ S b ∧ w.cell? ⟨b, off + i, none⟩ = some (.string l[i]) ∧ l[i].size ≤ maxLen := by
  obtain ⟨b, off, cs, e, hb, hl, hc, hr⟩ := Sl.get h i (by simpa using hi)
  rw [List.getElem_map] at hr
  obtain ⟨rfl, h1⟩ := D.rd_str.1 hr
  have := hc 0 _ rfl
  exact ⟨b, off, e, hb, by simpa using this, h1⟩

theorem implBare (x : GNode) (A1 : Option Addr) (c1 : Nat) (w : World) (hx : GNode.At w (Lt w.heap.size) A1 c1 x) :
    Calls Try.prog 235 #[.agg #[.int .i64 x.op, .int .i64 x.n, .string x.s, .string x.t, .slice A1 x.kids.length c1]] w fun e w' => e = .returned (.bool (x.op == 15 && x.kids.length == 0)) ∧ Below w.heap.size w w' := by
  have E : Below w.heap.size w (w.alloc (.cells #[.int .i64 x.op, .int .i64 x.n, .string x.s, .string x.t, .slice A1 x.kids.length c1] 49)) := (Below.refl _ _).alloc (Nat.le_refl _) _
  have hlen : x.kids.length ≤ 9223372036854775807 := by simpa using hx.2.2.2.2.len
  clear hx
  cases f1 : (x.op == 15)
  · go_enter Try.func235, Try.ntmps235
    go_wp2_with fail
    go_ret
    exact ⟨rfl, E⟩
  · by_cases hk0 : x.kids.length = 0
    · have f2 : (x.kids.length == 0) = true := beq_iff_eq.2 hk0
      have f3 : ((x.kids.length : Int) == 0) = true := by rw [hk0]; rfl
      have HR := Lib.hid (show (true && x.kids.length == 0) = true by rw [f2]; rfl)
      clear hk0 f2
      go_enter Try.func235, Try.ntmps235
      go_wp2_with fail
      go_ret
      exact ⟨ret_bool HR.out.symm, E⟩
    · have f2 : (x.kids.length == 0) = false := beq_eq_false_iff_ne.2 hk0
      have f3 : ((x.kids.length : Int) == 0) = false := by rw [beq_eq_false_iff_ne]; omega
      have HR := Lib.hid (show (true && x.kids.length == 0) = false by rw [f2]; rfl)
      clear hk0 f2
      go_enter Try.func235, Try.ntmps235
      go_wp2_with fail
      go_ret
      exact ⟨ret_bool HR.out.symm, E⟩

theorem implSign_10 (n : Int) (w : World) (h : n = 10) : Calls Try.prog 236 #[.int .i64 n] w fun e w' => e = .returned (.string (signT n)) ∧ Below w.heap.size w w' := by
  subst h
  have hs : IntKind.i64.wrap ((10 : Int) - 10) = 0 := by rfl
  go_enter Try.func236, Try.ntmps236
  go_wp2_with fail
  go_ret
  exact ⟨rfl, (Below.refl _ _).alloc (Nat.le_refl _) _⟩
theorem implSign_11 (n : Int) (w : World) (h : n = 11) : Calls Try.prog 236 #[.int .i64 n] w fun e w' => e = .returned (.string (signT n)) ∧ Below w.heap.size w w' := by
  subst h
  have hs : IntKind.i64.wrap ((11 : Int) - 10) = 1 := by rfl
  go_enter Try.func236, Try.ntmps236
  go_wp2_with fail
  go_ret
  exact ⟨rfl, (Below.refl _ _).alloc (Nat.le_refl _) _⟩
theorem implSign_12 (n : Int) (w : World) (h : n = 12) : Calls Try.prog 236 #[.int .i64 n] w fun e w' => e = .returned (.string (signT n)) ∧ Below w.heap.size w w' := by
  subst h
  have hs : IntKind.i64.wrap ((12 : Int) - 10) = 2 := by rfl
  go_enter Try.func236, Try.ntmps236
  go_wp2_with fail
  go_ret
  exact ⟨rfl, (Below.refl _ _).alloc (Nat.le_refl _) _⟩
theorem implSign_13 (n : Int) (w : World) (h : n = 13) : Calls Try.prog 236 #[.int .i64 n] w fun e w' => e = .returned (.string (signT n)) ∧ Below w.heap.size w w' := by
  subst h
  have hs : IntKind.i64.wrap ((13 : Int) - 10) = 3 := by rfl
  go_enter Try.func236, Try.ntmps236
  go_wp2_with fail
  go_ret
  exact ⟨rfl, (Below.refl _ _).alloc (Nat.le_refl _) _⟩
theorem implSign_14 (n : Int) (w : World) (h : n = 14) : Calls Try.prog 236 #[.int .i64 n] w fun e w' => e = .returned (.string (signT n)) ∧ Below w.heap.size w w' := by
  subst h
  have hs : IntKind.i64.wrap ((14 : Int) - 10) = 4 := by rfl
  go_enter Try.func236, Try.ntmps236
  go_wp2_with fail
  go_ret
  exact ⟨rfl, (Below.refl _ _).alloc (Nat.le_refl _) _⟩
theorem implSign (n : Int) (w : World) (h : 10 ≤ n ∧ n ≤ 14) : Calls Try.prog 236 #[.int .i64 n] w fun e w' => e = .returned (.string (signT n)) ∧ Below w.heap.size w w' := by
  rcases (show n = 10 ∨ n = 11 ∨ n = 12 ∨ n = 13 ∨ n = 14 by omega) with e | e | e | e | e
  · exact implSign_10 n w e
  · exact implSign_11 n w e
  · exact implSign_12 n w e
  · exact implSign_13 n w e
  · exact implSign_14 n w e
theorem Gsh.row {w : World} {B : Nat} {e : TypeId} {A : Option Addr} {c n : Nat} {xs : List D} (h : Gsh w B e 1 (.slice A n c) n xs) (hn : 0 < n) : ∃ g cur, A = some ⟨g, 0, none⟩ ∧ B ≤ g ∧ Row w g e cur := by
  obtain ⟨h1, cs, h2, h4⟩ := h
  rcases h2.2 with ⟨e0, h0⟩ | ⟨g, cap, cur, e0, a1, a2, _⟩
  · have := h2.1; cases e0; omega
  · cases e0; exact ⟨g, cur, rfl, a1, a2⟩
theorem inS_get {l : List GNode} {j : Nat} (h : j < l.length) : (l.map GNode.text)[j]'(by simpa using h) = (l[j]).text := List.getElem_map ..
end Go.Proofs.Ytgbcdfeflgnogaa

/- The program's write (1). Conditions: what the program holds is at most 1048576. -/
namespace Go.Proofs.Ytgbcdfeflgnogaa
open Go.RowKit Go.BigFrame
set_option linter.unusedVariables false
set_option linter.unusedSimpArgs false
set_option maxHeartbeats 4000000

set_option maxRecDepth 20000 in
theorem implWrite_1 (t : GNode) (A1 : Option Addr) (c1 : Nat) (w : World) (hb : t.bulk ≤ 1048576) (o : t.op = 1) (hin : inB t.n 0 1073741823 = true)
    (HE : ∀ x ∈ t.kids, ∀ (A2 : Option Addr) (c2 : Nat) (w2 : World), GNode.At w2 (Lt w2.heap.size) A2 c2 x → Calls Try.prog 168 #[.agg #[.int .i64 x.op, .int .i64 x.n, .string x.s, .string x.t, .slice A2 x.kids.length c2]] w2 fun e w' => e = .returned (.string x.text) ∧ Below w2.heap.size w2 w')
    (ht : GNode.At w (Lt w.heap.size) A1 c1 t) :
    Calls Try.prog 168 #[.agg #[.int .i64 t.op, .int .i64 t.n, .string t.s, .string t.t, .slice A1 t.kids.length c1]] w fun e w' => e = .returned (.string t.text) ∧ Below w.heap.size w w' := by
  obtain ⟨h0, h1, h2, h3, hk⟩ := id ht
  have hn := wf64 h1
  have hlen : t.kids.length ≤ 9223372036854775807 := by simpa using hk.len
  have hbe := t.bulk_eq
  have hlb := bulkL_len GNode.bulk t.kids
  have hl6 : t.kids.length ≤ 1048576 := by omega
  have hzs : t.s.size ≤ 1048576 := by omega
  have hzt : t.t.size ≤ 1048576 := by omega
  have hzl := t.lens_kids
  have hzl2 : lensB (t.kids.map GNode.text) ≤ 41943040 := by omega
  obtain ⟨w0, ew⟩ : ∃ w0, w0 = (w.alloc (.cells #[.int .i64 t.op, .int .i64 t.n, .string t.s, .string t.t, .slice A1 t.kids.length c1] 49)).alloc (.cells #[] 9) := ⟨_, rfl⟩
  have E := Lib.hid (show Below w.heap.size w w0 by rw [ew]; exact ((Below.refl _ _).alloc (Nat.le_refl _) _).alloc (by simp) _)
  have R := Lib.hid (show Row w0 w.heap.size 49 #[.int .i64 t.op, .int .i64 t.n, .string t.s, .string t.t, .slice A1 t.kids.length c1] by rw [ew]; exact (Row.new _ _ _).alloc _)
  have G0 := Lib.hid (show Gsh w0 (w.heap.size + 1) 9 1 (.slice (some ⟨w.heap.size + 1, 0, none⟩) 0 0) 0 [] from Gsh.made (by rw [ew]; exact Row.new' _ _ _ (by simp)) (Nat.le_refl _))
  have HSZ := Lib.hid (show w.heap.size + 1 ≤ w0.heap.size by rw [ew]; simp)
  have EQ := Lib.hid ew
  have K0 := Lib.hid (hk.below E.out (Nat.le_refl _))
  have HX := Lib.hid (fun (j : Nat) (hj : j < t.kids.length) => HE t.kids[j] (List.getElem_mem hj))
  have HZK := Lib.hid (fun (j : Nat) (hj : j < t.kids.length) => show (t.kids[j]).text.size ≤ 41943060 from by have := (t.kids[j]).text_size; have := bulkL_mem GNode.bulk t.kids _ (List.getElem_mem hj); omega)
  have hv := Lib.hid (show t.text = digI t.n by rw [t.text_eq]; unfold nodeTextOf; rw [if_pos (.inl o), if_pos hin])
  have p1 : (t.op == 1) = true := beq_iff_eq.2 o
  clear o hin
  clear HE ht h0 h1 h2 h3 hk hbe hlb hzl ew hb
  go_enter Try.func168, Try.ntmps168
  go_wp2_with fail
  rw [← EQ.out]
  go_loopw [3, 11] (fun v i wr => ∃ (j : Nat) (Av : Option Addr) (cv : Nat), j ≤ t.kids.length ∧ i = .int .i64 j ∧ v = .slice Av j cv ∧ Hid (Gsh wr (w.heap.size + 1) 9 1 (.slice Av j cv) j (((t.kids.map GNode.text).take j).map D.str)) ∧ Hid (Below (w.heap.size + 1) w0 wr)) (fun _ i _ => t.kids.length - (intOf i).toNat)
  case atStart => exact ⟨0, _, _, by omega, by go_num, rfl, G0, Lib.hid (Below.refl _ _)⟩
  case round =>
    clear G0
    obtain ⟨j, Av, cv, hj, rfl, rfl, HG, HB⟩ := hrel
    have hszw : w.heap.size + 1 ≤ wr.heap.size := Nat.le_trans HSZ.out HB.out.size
    by_cases hlt : j < t.kids.length
    · obtain ⟨b, off, A2, c2, eA, hSb, g0, g1, g2, g3, g4, hat⟩ := GNode.elem (K0.out.keep (w' := wr) (S' := Lt w.heap.size) (fun q hq => ⟨hq, HB.out.block q (Nat.lt_succ_of_lt hq)⟩)) j hlt
      subst eA
      have E1 := Lib.hid (show Below wr.heap.size wr (wr.alloc (.cells #[.int .i64 (t.kids[j]).op, .int .i64 (t.kids[j]).n, .string (t.kids[j]).s, .string (t.kids[j]).t, .slice A2 (t.kids[j]).kids.length c2] 49)) from (Below.refl _ _).alloc (Nat.le_refl _) _)
      have HXJ := Lib.hid (HX.out j hlt A2 c2 (wr.alloc (.cells #[.int .i64 (t.kids[j]).op, .int .i64 (t.kids[j]).n, .string (t.kids[j]).s, .string (t.kids[j]).t, .slice A2 (t.kids[j]).kids.length c2] 49)) ((hat.below (Below.refl _ _) (by omega : w.heap.size ≤ wr.heap.size)).below E1.out E1.out.size))
      have G1 := Lib.hid (HG.out.below E1.out hszw)
      have B1 := Lib.hid (HB.out.trans (E1.out.mono hszw))
      have hzk := HZK.out j hlt
      have HT := Lib.hid (show (t.kids.map GNode.text).take (j + 1) = (t.kids.map GNode.text).take j ++ [(t.kids[j]).text] by rw [List.take_succ_eq_append_getElem (by simpa using hlt), List.getElem_map])
      have hns : (t.kids[j]).text.size ≤ maxLen := by unfold maxLen; omega
      clear hat
      go_wp2_with fail
      refine HXJ.out.mono ?_
      rintro e w1 ⟨rfl, hb1⟩
      have hszw1 := Nat.le_trans hszw (Nat.le_trans E1.out.size hb1.size)
      have G2 := Lib.hid (G1.out.below hb1 (Nat.le_trans hszw E1.out.size))
      have B2 := Lib.hid (B1.out.trans (hb1.mono (Nat.le_trans hszw E1.out.size)))
      have HD := Lib.hid (show (D.str (t.kids[j]).text).rd w1 (Lt (w.heap.size + 1)) [.string (t.kids[j]).text] from D.rd_str.2 ⟨rfl, hns⟩)
      clear hb1 hns
      go_wp2_with (first | (at_builtin; refine wpList_append_S w1 rfl (.tmp 15) (.tmp 18) 202 rfl 9 (.string ⟨#[]⟩) 1 16 Try.underlying202 (by kernel_rfl) rfl (by omega) (w.heap.size + 1) (.slice Av j cv) j _ G2.out (D.str (t.kids[j]).text) [.string (t.kids[j]).text] HD.out hszw1 rfl (by simp [Value.oneCell']) (by omega) (by omega) 9 rfl w1.heap.size rfl rfl ?_; intro g cap w3 G3 Bq3 hs3 hg3 hgl3))
      go_roundw
      case rel => exact ⟨j + 1, some ⟨g, 0, none⟩, cap, by omega, by go_num, rfl, Lib.hid (by rw [HT.out, List.map_append]; exact G3), Lib.hid (B2.out.trans Bq3)⟩
      case measure => simp [intOf]; omega
    · have hjl : j = t.kids.length := by omega
      have HT := Lib.hid (show (t.kids.map GNode.text).take j = t.kids.map GNode.text by rw [hjl, List.take_of_length_le (by simp)])
      rw [HT.out] at HG
      have RW := Lib.hid (R.out.below HB.out (Nat.lt_succ_self _))
      have BW := Lib.hid (E.out.trans (HB.out.mono (Nat.le_succ _)))
      have hR := fun i => RW.out.cell i
      have q0 := upRow RW.out
      clear hjl
      have HDG := Lib.hid (fun (wx : World) => implDigits' t.n wx hn.1 hn.2)
      go_wp2_with fail
      refine (HDG.out _).mono ?_
      rintro e w9 ⟨rfl, rfl⟩
      go_wp2_with fail
      go_ret
      exact ⟨ret_str hv.out.symm, BW.out⟩

set_option maxRecDepth 20000 in
theorem implWrite_19 (t : GNode) (A1 : Option Addr) (c1 : Nat) (w : World) (hb : t.bulk ≤ 1048576) (o : t.op = 19) (hin : inB t.n 0 1073741823 = true)
    (HE : ∀ x ∈ t.kids, ∀ (A2 : Option Addr) (c2 : Nat) (w2 : World), GNode.At w2 (Lt w2.heap.size) A2 c2 x → Calls Try.prog 168 #[.agg #[.int .i64 x.op, .int .i64 x.n, .string x.s, .string x.t, .slice A2 x.kids.length c2]] w2 fun e w' => e = .returned (.string x.text) ∧ Below w2.heap.size w2 w')
    (ht : GNode.At w (Lt w.heap.size) A1 c1 t) :
    Calls Try.prog 168 #[.agg #[.int .i64 t.op, .int .i64 t.n, .string t.s, .string t.t, .slice A1 t.kids.length c1]] w fun e w' => e = .returned (.string t.text) ∧ Below w.heap.size w w' := by
  obtain ⟨h0, h1, h2, h3, hk⟩ := id ht
  have hn := wf64 h1
  have hlen : t.kids.length ≤ 9223372036854775807 := by simpa using hk.len
  have hbe := t.bulk_eq
  have hlb := bulkL_len GNode.bulk t.kids
  have hl6 : t.kids.length ≤ 1048576 := by omega
  have hzs : t.s.size ≤ 1048576 := by omega
  have hzt : t.t.size ≤ 1048576 := by omega
  have hzl := t.lens_kids
  have hzl2 : lensB (t.kids.map GNode.text) ≤ 41943040 := by omega
  obtain ⟨w0, ew⟩ : ∃ w0, w0 = (w.alloc (.cells #[.int .i64 t.op, .int .i64 t.n, .string t.s, .string t.t, .slice A1 t.kids.length c1] 49)).alloc (.cells #[] 9) := ⟨_, rfl⟩
  have E := Lib.hid (show Below w.heap.size w w0 by rw [ew]; exact ((Below.refl _ _).alloc (Nat.le_refl _) _).alloc (by simp) _)
  have R := Lib.hid (show Row w0 w.heap.size 49 #[.int .i64 t.op, .int .i64 t.n, .string t.s, .string t.t, .slice A1 t.kids.length c1] by rw [ew]; exact (Row.new _ _ _).alloc _)
  have G0 := Lib.hid (show Gsh w0 (w.heap.size + 1) 9 1 (.slice (some ⟨w.heap.size + 1, 0, none⟩) 0 0) 0 [] from Gsh.made (by rw [ew]; exact Row.new' _ _ _ (by simp)) (Nat.le_refl _))
  have HSZ := Lib.hid (show w.heap.size + 1 ≤ w0.heap.size by rw [ew]; simp)
  have EQ := Lib.hid ew
  have K0 := Lib.hid (hk.below E.out (Nat.le_refl _))
  have HX := Lib.hid (fun (j : Nat) (hj : j < t.kids.length) => HE t.kids[j] (List.getElem_mem hj))
  have HZK := Lib.hid (fun (j : Nat) (hj : j < t.kids.length) => show (t.kids[j]).text.size ≤ 41943060 from by have := (t.kids[j]).text_size; have := bulkL_mem GNode.bulk t.kids _ (List.getElem_mem hj); omega)
  have hv := Lib.hid (show t.text = digI t.n by rw [t.text_eq]; unfold nodeTextOf; rw [if_pos (.inr o), if_pos hin])
  have p1 : (t.op == 1) = false := beq_eq_false_iff_ne.2 (by omega)
  have p19 : (t.op == 19) = true := beq_iff_eq.2 o
  clear o hin
  clear HE ht h0 h1 h2 h3 hk hbe hlb hzl ew hb
  go_enter Try.func168, Try.ntmps168
  go_wp2_with fail
  rw [← EQ.out]
  go_loopw [3, 11] (fun v i wr => ∃ (j : Nat) (Av : Option Addr) (cv : Nat), j ≤ t.kids.length ∧ i = .int .i64 j ∧ v = .slice Av j cv ∧ Hid (Gsh wr (w.heap.size + 1) 9 1 (.slice Av j cv) j (((t.kids.map GNode.text).take j).map D.str)) ∧ Hid (Below (w.heap.size + 1) w0 wr)) (fun _ i _ => t.kids.length - (intOf i).toNat)
  case atStart => exact ⟨0, _, _, by omega, by go_num, rfl, G0, Lib.hid (Below.refl _ _)⟩
  case round =>
    clear G0
    obtain ⟨j, Av, cv, hj, rfl, rfl, HG, HB⟩ := hrel
    have hszw : w.heap.size + 1 ≤ wr.heap.size := Nat.le_trans HSZ.out HB.out.size
    by_cases hlt : j < t.kids.length
    · obtain ⟨b, off, A2, c2, eA, hSb, g0, g1, g2, g3, g4, hat⟩ := GNode.elem (K0.out.keep (w' := wr) (S' := Lt w.heap.size) (fun q hq => ⟨hq, HB.out.block q (Nat.lt_succ_of_lt hq)⟩)) j hlt
      subst eA
      have E1 := Lib.hid (show Below wr.heap.size wr (wr.alloc (.cells #[.int .i64 (t.kids[j]).op, .int .i64 (t.kids[j]).n, .string (t.kids[j]).s, .string (t.kids[j]).t, .slice A2 (t.kids[j]).kids.length c2] 49)) from (Below.refl _ _).alloc (Nat.le_refl _) _)
      have HXJ := Lib.hid (HX.out j hlt A2 c2 (wr.alloc (.cells #[.int .i64 (t.kids[j]).op, .int .i64 (t.kids[j]).n, .string (t.kids[j]).s, .string (t.kids[j]).t, .slice A2 (t.kids[j]).kids.length c2] 49)) ((hat.below (Below.refl _ _) (by omega : w.heap.size ≤ wr.heap.size)).below E1.out E1.out.size))
      have G1 := Lib.hid (HG.out.below E1.out hszw)
      have B1 := Lib.hid (HB.out.trans (E1.out.mono hszw))
      have hzk := HZK.out j hlt
      have HT := Lib.hid (show (t.kids.map GNode.text).take (j + 1) = (t.kids.map GNode.text).take j ++ [(t.kids[j]).text] by rw [List.take_succ_eq_append_getElem (by simpa using hlt), List.getElem_map])
      have hns : (t.kids[j]).text.size ≤ maxLen := by unfold maxLen; omega
      clear hat
      go_wp2_with fail
      refine HXJ.out.mono ?_
      rintro e w1 ⟨rfl, hb1⟩
      have hszw1 := Nat.le_trans hszw (Nat.le_trans E1.out.size hb1.size)
      have G2 := Lib.hid (G1.out.below hb1 (Nat.le_trans hszw E1.out.size))
      have B2 := Lib.hid (B1.out.trans (hb1.mono (Nat.le_trans hszw E1.out.size)))
      have HD := Lib.hid (show (D.str (t.kids[j]).text).rd w1 (Lt (w.heap.size + 1)) [.string (t.kids[j]).text] from D.rd_str.2 ⟨rfl, hns⟩)
      clear hb1 hns
      go_wp2_with (first | (at_builtin; refine wpList_append_S w1 rfl (.tmp 15) (.tmp 18) 202 rfl 9 (.string ⟨#[]⟩) 1 16 Try.underlying202 (by kernel_rfl) rfl (by omega) (w.heap.size + 1) (.slice Av j cv) j _ G2.out (D.str (t.kids[j]).text) [.string (t.kids[j]).text] HD.out hszw1 rfl (by simp [Value.oneCell']) (by omega) (by omega) 9 rfl w1.heap.size rfl rfl ?_; intro g cap w3 G3 Bq3 hs3 hg3 hgl3))
      go_roundw
      case rel => exact ⟨j + 1, some ⟨g, 0, none⟩, cap, by omega, by go_num, rfl, Lib.hid (by rw [HT.out, List.map_append]; exact G3), Lib.hid (B2.out.trans Bq3)⟩
      case measure => simp [intOf]; omega
    · have hjl : j = t.kids.length := by omega
      have HT := Lib.hid (show (t.kids.map GNode.text).take j = t.kids.map GNode.text by rw [hjl, List.take_of_length_le (by simp)])
      rw [HT.out] at HG
      have RW := Lib.hid (R.out.below HB.out (Nat.lt_succ_self _))
      have BW := Lib.hid (E.out.trans (HB.out.mono (Nat.le_succ _)))
      have hR := fun i => RW.out.cell i
      have q0 := upRow RW.out
      clear hjl
      have HDG := Lib.hid (fun (wx : World) => implDigits' t.n wx hn.1 hn.2)
      go_wp2_with fail
      refine (HDG.out _).mono ?_
      rintro e w9 ⟨rfl, rfl⟩
      go_wp2_with fail
      go_ret
      exact ⟨ret_str hv.out.symm, BW.out⟩

set_option maxRecDepth 20000 in
theorem implWrite_2 (t : GNode) (A1 : Option Addr) (c1 : Nat) (w : World) (hb : t.bulk ≤ 1048576) (o : t.op = 2)
    (HE : ∀ x ∈ t.kids, ∀ (A2 : Option Addr) (c2 : Nat) (w2 : World), GNode.At w2 (Lt w2.heap.size) A2 c2 x → Calls Try.prog 168 #[.agg #[.int .i64 x.op, .int .i64 x.n, .string x.s, .string x.t, .slice A2 x.kids.length c2]] w2 fun e w' => e = .returned (.string x.text) ∧ Below w2.heap.size w2 w')
    (ht : GNode.At w (Lt w.heap.size) A1 c1 t) :
    Calls Try.prog 168 #[.agg #[.int .i64 t.op, .int .i64 t.n, .string t.s, .string t.t, .slice A1 t.kids.length c1]] w fun e w' => e = .returned (.string t.text) ∧ Below w.heap.size w w' := by
  obtain ⟨h0, h1, h2, h3, hk⟩ := id ht
  have hn := wf64 h1
  have hlen : t.kids.length ≤ 9223372036854775807 := by simpa using hk.len
  have hbe := t.bulk_eq
  have hlb := bulkL_len GNode.bulk t.kids
  have hl6 : t.kids.length ≤ 1048576 := by omega
  have hzs : t.s.size ≤ 1048576 := by omega
  have hzt : t.t.size ≤ 1048576 := by omega
  have hzl := t.lens_kids
  have hzl2 : lensB (t.kids.map GNode.text) ≤ 41943040 := by omega
  obtain ⟨w0, ew⟩ : ∃ w0, w0 = (w.alloc (.cells #[.int .i64 t.op, .int .i64 t.n, .string t.s, .string t.t, .slice A1 t.kids.length c1] 49)).alloc (.cells #[] 9) := ⟨_, rfl⟩
  have E := Lib.hid (show Below w.heap.size w w0 by rw [ew]; exact ((Below.refl _ _).alloc (Nat.le_refl _) _).alloc (by simp) _)
  have R := Lib.hid (show Row w0 w.heap.size 49 #[.int .i64 t.op, .int .i64 t.n, .string t.s, .string t.t, .slice A1 t.kids.length c1] by rw [ew]; exact (Row.new _ _ _).alloc _)
  have G0 := Lib.hid (show Gsh w0 (w.heap.size + 1) 9 1 (.slice (some ⟨w.heap.size + 1, 0, none⟩) 0 0) 0 [] from Gsh.made (by rw [ew]; exact Row.new' _ _ _ (by simp)) (Nat.le_refl _))
  have HSZ := Lib.hid (show w.heap.size + 1 ≤ w0.heap.size by rw [ew]; simp)
  have EQ := Lib.hid ew
  have K0 := Lib.hid (hk.below E.out (Nat.le_refl _))
  have HX := Lib.hid (fun (j : Nat) (hj : j < t.kids.length) => HE t.kids[j] (List.getElem_mem hj))
  have HZK := Lib.hid (fun (j : Nat) (hj : j < t.kids.length) => show (t.kids[j]).text.size ≤ 41943060 from by have := (t.kids[j]).text_size; have := bulkL_mem GNode.bulk t.kids _ (List.getElem_mem hj); omega)
  have hv := Lib.hid (show t.text = t.s by rw [t.text_eq]; unfold nodeTextOf; rw [if_neg (by omega), if_pos (.inl o)])
  have p1 : (t.op == 1) = false := beq_eq_false_iff_ne.2 (by omega)
  have p19 : (t.op == 19) = false := beq_eq_false_iff_ne.2 (by omega)
  have p2 : (t.op == 2) = true := beq_iff_eq.2 o
  clear o
  clear HE ht h0 h1 h2 h3 hk hbe hlb hzl ew hb
  go_enter Try.func168, Try.ntmps168
  go_wp2_with fail
  rw [← EQ.out]
  go_loopw [3, 11] (fun v i wr => ∃ (j : Nat) (Av : Option Addr) (cv : Nat), j ≤ t.kids.length ∧ i = .int .i64 j ∧ v = .slice Av j cv ∧ Hid (Gsh wr (w.heap.size + 1) 9 1 (.slice Av j cv) j (((t.kids.map GNode.text).take j).map D.str)) ∧ Hid (Below (w.heap.size + 1) w0 wr)) (fun _ i _ => t.kids.length - (intOf i).toNat)
  case atStart => exact ⟨0, _, _, by omega, by go_num, rfl, G0, Lib.hid (Below.refl _ _)⟩
  case round =>
    clear G0
    obtain ⟨j, Av, cv, hj, rfl, rfl, HG, HB⟩ := hrel
    have hszw : w.heap.size + 1 ≤ wr.heap.size := Nat.le_trans HSZ.out HB.out.size
    by_cases hlt : j < t.kids.length
    · obtain ⟨b, off, A2, c2, eA, hSb, g0, g1, g2, g3, g4, hat⟩ := GNode.elem (K0.out.keep (w' := wr) (S' := Lt w.heap.size) (fun q hq => ⟨hq, HB.out.block q (Nat.lt_succ_of_lt hq)⟩)) j hlt
      subst eA
      have E1 := Lib.hid (show Below wr.heap.size wr (wr.alloc (.cells #[.int .i64 (t.kids[j]).op, .int .i64 (t.kids[j]).n, .string (t.kids[j]).s, .string (t.kids[j]).t, .slice A2 (t.kids[j]).kids.length c2] 49)) from (Below.refl _ _).alloc (Nat.le_refl _) _)
      have HXJ := Lib.hid (HX.out j hlt A2 c2 (wr.alloc (.cells #[.int .i64 (t.kids[j]).op, .int .i64 (t.kids[j]).n, .string (t.kids[j]).s, .string (t.kids[j]).t, .slice A2 (t.kids[j]).kids.length c2] 49)) ((hat.below (Below.refl _ _) (by omega : w.heap.size ≤ wr.heap.size)).below E1.out E1.out.size))
      have G1 := Lib.hid (HG.out.below E1.out hszw)
      have B1 := Lib.hid (HB.out.trans (E1.out.mono hszw))
      have hzk := HZK.out j hlt
      have HT := Lib.hid (show (t.kids.map GNode.text).take (j + 1) = (t.kids.map GNode.text).take j ++ [(t.kids[j]).text] by rw [List.take_succ_eq_append_getElem (by simpa using hlt), List.getElem_map])
      have hns : (t.kids[j]).text.size ≤ maxLen := by unfold maxLen; omega
      clear hat
      go_wp2_with fail
      refine HXJ.out.mono ?_
      rintro e w1 ⟨rfl, hb1⟩
      have hszw1 := Nat.le_trans hszw (Nat.le_trans E1.out.size hb1.size)
      have G2 := Lib.hid (G1.out.below hb1 (Nat.le_trans hszw E1.out.size))
      have B2 := Lib.hid (B1.out.trans (hb1.mono (Nat.le_trans hszw E1.out.size)))
      have HD := Lib.hid (show (D.str (t.kids[j]).text).rd w1 (Lt (w.heap.size + 1)) [.string (t.kids[j]).text] from D.rd_str.2 ⟨rfl, hns⟩)
      clear hb1 hns
      go_wp2_with (first | (at_builtin; refine wpList_append_S w1 rfl (.tmp 15) (.tmp 18) 202 rfl 9 (.string ⟨#[]⟩) 1 16 Try.underlying202 (by kernel_rfl) rfl (by omega) (w.heap.size + 1) (.slice Av j cv) j _ G2.out (D.str (t.kids[j]).text) [.string (t.kids[j]).text] HD.out hszw1 rfl (by simp [Value.oneCell']) (by omega) (by omega) 9 rfl w1.heap.size rfl rfl ?_; intro g cap w3 G3 Bq3 hs3 hg3 hgl3))
      go_roundw
      case rel => exact ⟨j + 1, some ⟨g, 0, none⟩, cap, by omega, by go_num, rfl, Lib.hid (by rw [HT.out, List.map_append]; exact G3), Lib.hid (B2.out.trans Bq3)⟩
      case measure => simp [intOf]; omega
    · have hjl : j = t.kids.length := by omega
      have HT := Lib.hid (show (t.kids.map GNode.text).take j = t.kids.map GNode.text by rw [hjl, List.take_of_length_le (by simp)])
      rw [HT.out] at HG
      have RW := Lib.hid (R.out.below HB.out (Nat.lt_succ_self _))
      have BW := Lib.hid (E.out.trans (HB.out.mono (Nat.le_succ _)))
      have hR := fun i => RW.out.cell i
      have q0 := upRow RW.out
      clear hjl
      go_wp2_with fail
      go_ret
      exact ⟨ret_str hv.out.symm, BW.out⟩

set_option maxRecDepth 20000 in
theorem implWrite_18 (t : GNode) (A1 : Option Addr) (c1 : Nat) (w : World) (hb : t.bulk ≤ 1048576) (o : t.op = 18)
    (HE : ∀ x ∈ t.kids, ∀ (A2 : Option Addr) (c2 : Nat) (w2 : World), GNode.At w2 (Lt w2.heap.size) A2 c2 x → Calls Try.prog 168 #[.agg #[.int .i64 x.op, .int .i64 x.n, .string x.s, .string x.t, .slice A2 x.kids.length c2]] w2 fun e w' => e = .returned (.string x.text) ∧ Below w2.heap.size w2 w')
    (ht : GNode.At w (Lt w.heap.size) A1 c1 t) :
    Calls Try.prog 168 #[.agg #[.int .i64 t.op, .int .i64 t.n, .string t.s, .string t.t, .slice A1 t.kids.length c1]] w fun e w' => e = .returned (.string t.text) ∧ Below w.heap.size w w' := by
  obtain ⟨h0, h1, h2, h3, hk⟩ := id ht
  have hn := wf64 h1
  have hlen : t.kids.length ≤ 9223372036854775807 := by simpa using hk.len
  have hbe := t.bulk_eq
  have hlb := bulkL_len GNode.bulk t.kids
  have hl6 : t.kids.length ≤ 1048576 := by omega
  have hzs : t.s.size ≤ 1048576 := by omega
  have hzt : t.t.size ≤ 1048576 := by omega
  have hzl := t.lens_kids
  have hzl2 : lensB (t.kids.map GNode.text) ≤ 41943040 := by omega
  obtain ⟨w0, ew⟩ : ∃ w0, w0 = (w.alloc (.cells #[.int .i64 t.op, .int .i64 t.n, .string t.s, .string t.t, .slice A1 t.kids.length c1] 49)).alloc (.cells #[] 9) := ⟨_, rfl⟩
  have E := Lib.hid (show Below w.heap.size w w0 by rw [ew]; exact ((Below.refl _ _).alloc (Nat.le_refl _) _).alloc (by simp) _)
  have R := Lib.hid (show Row w0 w.heap.size 49 #[.int .i64 t.op, .int .i64 t.n, .string t.s, .string t.t, .slice A1 t.kids.length c1] by rw [ew]; exact (Row.new _ _ _).alloc _)
  have G0 := Lib.hid (show Gsh w0 (w.heap.size + 1) 9 1 (.slice (some ⟨w.heap.size + 1, 0, none⟩) 0 0) 0 [] from Gsh.made (by rw [ew]; exact Row.new' _ _ _ (by simp)) (Nat.le_refl _))
  have HSZ := Lib.hid (show w.heap.size + 1 ≤ w0.heap.size by rw [ew]; simp)
  have EQ := Lib.hid ew
  have K0 := Lib.hid (hk.below E.out (Nat.le_refl _))
  have HX := Lib.hid (fun (j : Nat) (hj : j < t.kids.length) => HE t.kids[j] (List.getElem_mem hj))
  have HZK := Lib.hid (fun (j : Nat) (hj : j < t.kids.length) => show (t.kids[j]).text.size ≤ 41943060 from by have := (t.kids[j]).text_size; have := bulkL_mem GNode.bulk t.kids _ (List.getElem_mem hj); omega)
  have hv := Lib.hid (show t.text = t.s by rw [t.text_eq]; unfold nodeTextOf; rw [if_neg (by omega), if_pos (.inr o)])
  have p1 : (t.op == 1) = false := beq_eq_false_iff_ne.2 (by omega)
  have p19 : (t.op == 19) = false := beq_eq_false_iff_ne.2 (by omega)
  have p2 : (t.op == 2) = false := beq_eq_false_iff_ne.2 (by omega)
  have p18 : (t.op == 18) = true := beq_iff_eq.2 o
  clear o
  clear HE ht h0 h1 h2 h3 hk hbe hlb hzl ew hb
  go_enter Try.func168, Try.ntmps168
  go_wp2_with fail
  rw [← EQ.out]
  go_loopw [3, 11] (fun v i wr => ∃ (j : Nat) (Av : Option Addr) (cv : Nat), j ≤ t.kids.length ∧ i = .int .i64 j ∧ v = .slice Av j cv ∧ Hid (Gsh wr (w.heap.size + 1) 9 1 (.slice Av j cv) j (((t.kids.map GNode.text).take j).map D.str)) ∧ Hid (Below (w.heap.size + 1) w0 wr)) (fun _ i _ => t.kids.length - (intOf i).toNat)
  case atStart => exact ⟨0, _, _, by omega, by go_num, rfl, G0, Lib.hid (Below.refl _ _)⟩
  case round =>
    clear G0
    obtain ⟨j, Av, cv, hj, rfl, rfl, HG, HB⟩ := hrel
    have hszw : w.heap.size + 1 ≤ wr.heap.size := Nat.le_trans HSZ.out HB.out.size
    by_cases hlt : j < t.kids.length
    · obtain ⟨b, off, A2, c2, eA, hSb, g0, g1, g2, g3, g4, hat⟩ := GNode.elem (K0.out.keep (w' := wr) (S' := Lt w.heap.size) (fun q hq => ⟨hq, HB.out.block q (Nat.lt_succ_of_lt hq)⟩)) j hlt
      subst eA
      have E1 := Lib.hid (show Below wr.heap.size wr (wr.alloc (.cells #[.int .i64 (t.kids[j]).op, .int .i64 (t.kids[j]).n, .string (t.kids[j]).s, .string (t.kids[j]).t, .slice A2 (t.kids[j]).kids.length c2] 49)) from (Below.refl _ _).alloc (Nat.le_refl _) _)
      have HXJ := Lib.hid (HX.out j hlt A2 c2 (wr.alloc (.cells #[.int .i64 (t.kids[j]).op, .int .i64 (t.kids[j]).n, .string (t.kids[j]).s, .string (t.kids[j]).t, .slice A2 (t.kids[j]).kids.length c2] 49)) ((hat.below (Below.refl _ _) (by omega : w.heap.size ≤ wr.heap.size)).below E1.out E1.out.size))
      have G1 := Lib.hid (HG.out.below E1.out hszw)
      have B1 := Lib.hid (HB.out.trans (E1.out.mono hszw))
      have hzk := HZK.out j hlt
      have HT := Lib.hid (show (t.kids.map GNode.text).take (j + 1) = (t.kids.map GNode.text).take j ++ [(t.kids[j]).text] by rw [List.take_succ_eq_append_getElem (by simpa using hlt), List.getElem_map])
      have hns : (t.kids[j]).text.size ≤ maxLen := by unfold maxLen; omega
      clear hat
      go_wp2_with fail
      refine HXJ.out.mono ?_
      rintro e w1 ⟨rfl, hb1⟩
      have hszw1 := Nat.le_trans hszw (Nat.le_trans E1.out.size hb1.size)
      have G2 := Lib.hid (G1.out.below hb1 (Nat.le_trans hszw E1.out.size))
      have B2 := Lib.hid (B1.out.trans (hb1.mono (Nat.le_trans hszw E1.out.size)))
      have HD := Lib.hid (show (D.str (t.kids[j]).text).rd w1 (Lt (w.heap.size + 1)) [.string (t.kids[j]).text] from D.rd_str.2 ⟨rfl, hns⟩)
      clear hb1 hns
      go_wp2_with (first | (at_builtin; refine wpList_append_S w1 rfl (.tmp 15) (.tmp 18) 202 rfl 9 (.string ⟨#[]⟩) 1 16 Try.underlying202 (by kernel_rfl) rfl (by omega) (w.heap.size + 1) (.slice Av j cv) j _ G2.out (D.str (t.kids[j]).text) [.string (t.kids[j]).text] HD.out hszw1 rfl (by simp [Value.oneCell']) (by omega) (by omega) 9 rfl w1.heap.size rfl rfl ?_; intro g cap w3 G3 Bq3 hs3 hg3 hgl3))
      go_roundw
      case rel => exact ⟨j + 1, some ⟨g, 0, none⟩, cap, by omega, by go_num, rfl, Lib.hid (by rw [HT.out, List.map_append]; exact G3), Lib.hid (B2.out.trans Bq3)⟩
      case measure => simp [intOf]; omega
    · have hjl : j = t.kids.length := by omega
      have HT := Lib.hid (show (t.kids.map GNode.text).take j = t.kids.map GNode.text by rw [hjl, List.take_of_length_le (by simp)])
      rw [HT.out] at HG
      have RW := Lib.hid (R.out.below HB.out (Nat.lt_succ_self _))
      have BW := Lib.hid (E.out.trans (HB.out.mono (Nat.le_succ _)))
      have hR := fun i => RW.out.cell i
      have q0 := upRow RW.out
      clear hjl
      go_wp2_with fail
      go_ret
      exact ⟨ret_str hv.out.symm, BW.out⟩

set_option maxRecDepth 20000 in
theorem implWrite_17 (t : GNode) (A1 : Option Addr) (c1 : Nat) (w : World) (hb : t.bulk ≤ 1048576) (o : t.op = 17)
    (HE : ∀ x ∈ t.kids, ∀ (A2 : Option Addr) (c2 : Nat) (w2 : World), GNode.At w2 (Lt w2.heap.size) A2 c2 x → Calls Try.prog 168 #[.agg #[.int .i64 x.op, .int .i64 x.n, .string x.s, .string x.t, .slice A2 x.kids.length c2]] w2 fun e w' => e = .returned (.string x.text) ∧ Below w2.heap.size w2 w')
    (ht : GNode.At w (Lt w.heap.size) A1 c1 t) :
    Calls Try.prog 168 #[.agg #[.int .i64 t.op, .int .i64 t.n, .string t.s, .string t.t, .slice A1 t.kids.length c1]] w fun e w' => e = .returned (.string t.text) ∧ Below w.heap.size w w' := by
  obtain ⟨h0, h1, h2, h3, hk⟩ := id ht
  have hn := wf64 h1
  have hlen : t.kids.length ≤ 9223372036854775807 := by simpa using hk.len
  have hbe := t.bulk_eq
  have hlb := bulkL_len GNode.bulk t.kids
  have hl6 : t.kids.length ≤ 1048576 := by omega
  have hzs : t.s.size ≤ 1048576 := by omega
  have hzt : t.t.size ≤ 1048576 := by omega
  have hzl := t.lens_kids
  have hzl2 : lensB (t.kids.map GNode.text) ≤ 41943040 := by omega
  obtain ⟨w0, ew⟩ : ∃ w0, w0 = (w.alloc (.cells #[.int .i64 t.op, .int .i64 t.n, .string t.s, .string t.t, .slice A1 t.kids.length c1] 49)).alloc (.cells #[] 9) := ⟨_, rfl⟩
  have E := Lib.hid (show Below w.heap.size w w0 by rw [ew]; exact ((Below.refl _ _).alloc (Nat.le_refl _) _).alloc (by simp) _)
  have R := Lib.hid (show Row w0 w.heap.size 49 #[.int .i64 t.op, .int .i64 t.n, .string t.s, .string t.t, .slice A1 t.kids.length c1] by rw [ew]; exact (Row.new _ _ _).alloc _)
  have G0 := Lib.hid (show Gsh w0 (w.heap.size + 1) 9 1 (.slice (some ⟨w.heap.size + 1, 0, none⟩) 0 0) 0 [] from Gsh.made (by rw [ew]; exact Row.new' _ _ _ (by simp)) (Nat.le_refl _))
  have HSZ := Lib.hid (show w.heap.size + 1 ≤ w0.heap.size by rw [ew]; simp)
  have EQ := Lib.hid ew
  have K0 := Lib.hid (hk.below E.out (Nat.le_refl _))
  have HX := Lib.hid (fun (j : Nat) (hj : j < t.kids.length) => HE t.kids[j] (List.getElem_mem hj))
  have HZK := Lib.hid (fun (j : Nat) (hj : j < t.kids.length) => show (t.kids[j]).text.size ≤ 41943060 from by have := (t.kids[j]).text_size; have := bulkL_mem GNode.bulk t.kids _ (List.getElem_mem hj); omega)
  have hv := Lib.hid (show t.text = ⟨#[95]⟩ by rw [t.text_eq]; unfold nodeTextOf; rw [if_neg (by omega), if_neg (by omega), if_pos o])
  have p1 : (t.op == 1) = false := beq_eq_false_iff_ne.2 (by omega)
  have p19 : (t.op == 19) = false := beq_eq_false_iff_ne.2 (by omega)
  have p2 : (t.op == 2) = false := beq_eq_false_iff_ne.2 (by omega)
  have p18 : (t.op == 18) = false := beq_eq_false_iff_ne.2 (by omega)
  have p17 : (t.op == 17) = true := beq_iff_eq.2 o
  clear o
  clear HE ht h0 h1 h2 h3 hk hbe hlb hzl ew hb
  go_enter Try.func168, Try.ntmps168
  go_wp2_with fail
  rw [← EQ.out]
  go_loopw [3, 11] (fun v i wr => ∃ (j : Nat) (Av : Option Addr) (cv : Nat), j ≤ t.kids.length ∧ i = .int .i64 j ∧ v = .slice Av j cv ∧ Hid (Gsh wr (w.heap.size + 1) 9 1 (.slice Av j cv) j (((t.kids.map GNode.text).take j).map D.str)) ∧ Hid (Below (w.heap.size + 1) w0 wr)) (fun _ i _ => t.kids.length - (intOf i).toNat)
  case atStart => exact ⟨0, _, _, by omega, by go_num, rfl, G0, Lib.hid (Below.refl _ _)⟩
  case round =>
    clear G0
    obtain ⟨j, Av, cv, hj, rfl, rfl, HG, HB⟩ := hrel
    have hszw : w.heap.size + 1 ≤ wr.heap.size := Nat.le_trans HSZ.out HB.out.size
    by_cases hlt : j < t.kids.length
    · obtain ⟨b, off, A2, c2, eA, hSb, g0, g1, g2, g3, g4, hat⟩ := GNode.elem (K0.out.keep (w' := wr) (S' := Lt w.heap.size) (fun q hq => ⟨hq, HB.out.block q (Nat.lt_succ_of_lt hq)⟩)) j hlt
      subst eA
      have E1 := Lib.hid (show Below wr.heap.size wr (wr.alloc (.cells #[.int .i64 (t.kids[j]).op, .int .i64 (t.kids[j]).n, .string (t.kids[j]).s, .string (t.kids[j]).t, .slice A2 (t.kids[j]).kids.length c2] 49)) from (Below.refl _ _).alloc (Nat.le_refl _) _)
      have HXJ := Lib.hid (HX.out j hlt A2 c2 (wr.alloc (.cells #[.int .i64 (t.kids[j]).op, .int .i64 (t.kids[j]).n, .string (t.kids[j]).s, .string (t.kids[j]).t, .slice A2 (t.kids[j]).kids.length c2] 49)) ((hat.below (Below.refl _ _) (by omega : w.heap.size ≤ wr.heap.size)).below E1.out E1.out.size))
      have G1 := Lib.hid (HG.out.below E1.out hszw)
      have B1 := Lib.hid (HB.out.trans (E1.out.mono hszw))
      have hzk := HZK.out j hlt
      have HT := Lib.hid (show (t.kids.map GNode.text).take (j + 1) = (t.kids.map GNode.text).take j ++ [(t.kids[j]).text] by rw [List.take_succ_eq_append_getElem (by simpa using hlt), List.getElem_map])
      have hns : (t.kids[j]).text.size ≤ maxLen := by unfold maxLen; omega
      clear hat
      go_wp2_with fail
      refine HXJ.out.mono ?_
      rintro e w1 ⟨rfl, hb1⟩
      have hszw1 := Nat.le_trans hszw (Nat.le_trans E1.out.size hb1.size)
      have G2 := Lib.hid (G1.out.below hb1 (Nat.le_trans hszw E1.out.size))
      have B2 := Lib.hid (B1.out.trans (hb1.mono (Nat.le_trans hszw E1.out.size)))
      have HD := Lib.hid (show (D.str (t.kids[j]).text).rd w1 (Lt (w.heap.size + 1)) [.string (t.kids[j]).text] from D.rd_str.2 ⟨rfl, hns⟩)
      clear hb1 hns
      go_wp2_with (first | (at_builtin; refine wpList_append_S w1 rfl (.tmp 15) (.tmp 18) 202 rfl 9 (.string ⟨#[]⟩) 1 16 Try.underlying202 (by kernel_rfl) rfl (by omega) (w.heap.size + 1) (.slice Av j cv) j _ G2.out (D.str (t.kids[j]).text) [.string (t.kids[j]).text] HD.out hszw1 rfl (by simp [Value.oneCell']) (by omega) (by omega) 9 rfl w1.heap.size rfl rfl ?_; intro g cap w3 G3 Bq3 hs3 hg3 hgl3))
      go_roundw
      case rel => exact ⟨j + 1, some ⟨g, 0, none⟩, cap, by omega, by go_num, rfl, Lib.hid (by rw [HT.out, List.map_append]; exact G3), Lib.hid (B2.out.trans Bq3)⟩
      case measure => simp [intOf]; omega
    · have hjl : j = t.kids.length := by omega
      have HT := Lib.hid (show (t.kids.map GNode.text).take j = t.kids.map GNode.text by rw [hjl, List.take_of_length_le (by simp)])
      rw [HT.out] at HG
      have RW := Lib.hid (R.out.below HB.out (Nat.lt_succ_self _))
      have BW := Lib.hid (E.out.trans (HB.out.mono (Nat.le_succ _)))
      have hR := fun i => RW.out.cell i
      have q0 := upRow RW.out
      clear hjl
      go_wp2_with fail
      go_ret
      exact ⟨ret_str hv.out.symm, BW.out⟩

end Go.Proofs.Ytgbcdfeflgnogaa

/- The program's write (2). Conditions: what the program holds is at most 1048576. -/
namespace Go.Proofs.Ytgbcdfeflgnogaa
open Go.RowKit Go.BigFrame
set_option linter.unusedVariables false
set_option linter.unusedSimpArgs false
set_option maxHeartbeats 4000000

set_option maxRecDepth 20000 in
theorem implWrite_8 (t : GNode) (A1 : Option Addr) (c1 : Nat) (w : World) (hb : t.bulk ≤ 1048576) (o : t.op = 8) (hl : t.kids.length = 2)
    (HE : ∀ x ∈ t.kids, ∀ (A2 : Option Addr) (c2 : Nat) (w2 : World), GNode.At w2 (Lt w2.heap.size) A2 c2 x → Calls Try.prog 168 #[.agg #[.int .i64 x.op, .int .i64 x.n, .string x.s, .string x.t, .slice A2 x.kids.length c2]] w2 fun e w' => e = .returned (.string x.text) ∧ Below w2.heap.size w2 w')
    (ht : GNode.At w (Lt w.heap.size) A1 c1 t) :
    Calls Try.prog 168 #[.agg #[.int .i64 t.op, .int .i64 t.n, .string t.s, .string t.t, .slice A1 t.kids.length c1]] w fun e w' => e = .returned (.string t.text) ∧ Below w.heap.size w w' := by
  obtain ⟨h0, h1, h2, h3, hk⟩ := id ht
  have hn := wf64 h1
  have hlen : t.kids.length ≤ 9223372036854775807 := by simpa using hk.len
  have hbe := t.bulk_eq
  have hlb := bulkL_len GNode.bulk t.kids
  have hl6 : t.kids.length ≤ 1048576 := by omega
  have hzs : t.s.size ≤ 1048576 := by omega
  have hzt : t.t.size ≤ 1048576 := by omega
  have hzl := t.lens_kids
  have hzl2 : lensB (t.kids.map GNode.text) ≤ 41943040 := by omega
  obtain ⟨w0, ew⟩ : ∃ w0, w0 = (w.alloc (.cells #[.int .i64 t.op, .int .i64 t.n, .string t.s, .string t.t, .slice A1 t.kids.length c1] 49)).alloc (.cells #[] 9) := ⟨_, rfl⟩
  have E := Lib.hid (show Below w.heap.size w w0 by rw [ew]; exact ((Below.refl _ _).alloc (Nat.le_refl _) _).alloc (by simp) _)
  have R := Lib.hid (show Row w0 w.heap.size 49 #[.int .i64 t.op, .int .i64 t.n, .string t.s, .string t.t, .slice A1 t.kids.length c1] by rw [ew]; exact (Row.new _ _ _).alloc _)
  have G0 := Lib.hid (show Gsh w0 (w.heap.size + 1) 9 1 (.slice (some ⟨w.heap.size + 1, 0, none⟩) 0 0) 0 [] from Gsh.made (by rw [ew]; exact Row.new' _ _ _ (by simp)) (Nat.le_refl _))
  have HSZ := Lib.hid (show w.heap.size + 1 ≤ w0.heap.size by rw [ew]; simp)
  have EQ := Lib.hid ew
  have K0 := Lib.hid (hk.below E.out (Nat.le_refl _))
  have HX := Lib.hid (fun (j : Nat) (hj : j < t.kids.length) => HE t.kids[j] (List.getElem_mem hj))
  have HZK := Lib.hid (fun (j : Nat) (hj : j < t.kids.length) => show (t.kids[j]).text.size ≤ 41943060 from by have := (t.kids[j]).text_size; have := bulkL_mem GNode.bulk t.kids _ (List.getElem_mem hj); omega)
  obtain ⟨a, ea⟩ : ∃ x, x = atB (t.kids.map GNode.text) 0 := ⟨_, rfl⟩
  have Ha := Lib.hid (show ∀ h : 0 < (t.kids.map GNode.text).length, a = (t.kids.map GNode.text)[0] from fun h => by rw [ea, atB_get h])
  have hza : a.size ≤ 41943040 := by rw [Ha.out (by simpa using (by omega : 0 < t.kids.length))]; exact Nat.le_trans (lensB_get _) hzl2
  obtain ⟨b, eb⟩ : ∃ x, x = atB (t.kids.map GNode.text) 1 := ⟨_, rfl⟩
  have Hb := Lib.hid (show ∀ h : 1 < (t.kids.map GNode.text).length, b = (t.kids.map GNode.text)[1] from fun h => by rw [eb, atB_get h])
  have hzb : b.size ≤ 41943040 := by rw [Hb.out (by simpa using (by omega : 1 < t.kids.length))]; exact Nat.le_trans (lensB_get _) hzl2
  have hv := Lib.hid (show t.text = a ++ ⟨#[32, 45, 62, 32]⟩ ++ b by rw [t.text_eq]; unfold nodeTextOf; rw [if_neg (by omega), if_neg (by omega), if_neg (by omega), if_pos o]; rw [← ea, ← eb])
  have p1 : (t.op == 1) = false := beq_eq_false_iff_ne.2 (by omega)
  have p19 : (t.op == 19) = false := beq_eq_false_iff_ne.2 (by omega)
  have p2 : (t.op == 2) = false := beq_eq_false_iff_ne.2 (by omega)
  have p18 : (t.op == 18) = false := beq_eq_false_iff_ne.2 (by omega)
  have p17 : (t.op == 17) = false := beq_eq_false_iff_ne.2 (by omega)
  have p8 : (t.op == 8) = true := beq_iff_eq.2 o
  have zz0 : ¬ 9223372036854775807 < a.size + 4 := by omega
  have zz1 : ¬ 9223372036854775807 < a.size + 4 + b.size := by omega
  have hll := Lib.hid (show 2 ≤ t.kids.length by omega)
  clear ea eb
  clear o hl
  clear HE ht h0 h1 h2 h3 hk hbe hlb hzl ew hb
  go_enter Try.func168, Try.ntmps168
  go_wp2_with fail
  rw [← EQ.out]
  go_loopw [3, 11] (fun v i wr => ∃ (j : Nat) (Av : Option Addr) (cv : Nat), j ≤ t.kids.length ∧ i = .int .i64 j ∧ v = .slice Av j cv ∧ Hid (Gsh wr (w.heap.size + 1) 9 1 (.slice Av j cv) j (((t.kids.map GNode.text).take j).map D.str)) ∧ Hid (Below (w.heap.size + 1) w0 wr)) (fun _ i _ => t.kids.length - (intOf i).toNat)
  case atStart => exact ⟨0, _, _, by omega, by go_num, rfl, G0, Lib.hid (Below.refl _ _)⟩
  case round =>
    clear G0
    obtain ⟨j, Av, cv, hj, rfl, rfl, HG, HB⟩ := hrel
    have hszw : w.heap.size + 1 ≤ wr.heap.size := Nat.le_trans HSZ.out HB.out.size
    by_cases hlt : j < t.kids.length
    · obtain ⟨b, off, A2, c2, eA, hSb, g0, g1, g2, g3, g4, hat⟩ := GNode.elem (K0.out.keep (w' := wr) (S' := Lt w.heap.size) (fun q hq => ⟨hq, HB.out.block q (Nat.lt_succ_of_lt hq)⟩)) j hlt
      subst eA
      have E1 := Lib.hid (show Below wr.heap.size wr (wr.alloc (.cells #[.int .i64 (t.kids[j]).op, .int .i64 (t.kids[j]).n, .string (t.kids[j]).s, .string (t.kids[j]).t, .slice A2 (t.kids[j]).kids.length c2] 49)) from (Below.refl _ _).alloc (Nat.le_refl _) _)
      have HXJ := Lib.hid (HX.out j hlt A2 c2 (wr.alloc (.cells #[.int .i64 (t.kids[j]).op, .int .i64 (t.kids[j]).n, .string (t.kids[j]).s, .string (t.kids[j]).t, .slice A2 (t.kids[j]).kids.length c2] 49)) ((hat.below (Below.refl _ _) (by omega : w.heap.size ≤ wr.heap.size)).below E1.out E1.out.size))
      have G1 := Lib.hid (HG.out.below E1.out hszw)
      have B1 := Lib.hid (HB.out.trans (E1.out.mono hszw))
      have hzk := HZK.out j hlt
      have HT := Lib.hid (show (t.kids.map GNode.text).take (j + 1) = (t.kids.map GNode.text).take j ++ [(t.kids[j]).text] by rw [List.take_succ_eq_append_getElem (by simpa using hlt), List.getElem_map])
      have hns : (t.kids[j]).text.size ≤ maxLen := by unfold maxLen; omega
      clear hat
      go_wp2_with fail
      refine HXJ.out.mono ?_
      rintro e w1 ⟨rfl, hb1⟩
      have hszw1 := Nat.le_trans hszw (Nat.le_trans E1.out.size hb1.size)
      have G2 := Lib.hid (G1.out.below hb1 (Nat.le_trans hszw E1.out.size))
      have B2 := Lib.hid (B1.out.trans (hb1.mono (Nat.le_trans hszw E1.out.size)))
      have HD := Lib.hid (show (D.str (t.kids[j]).text).rd w1 (Lt (w.heap.size + 1)) [.string (t.kids[j]).text] from D.rd_str.2 ⟨rfl, hns⟩)
      clear hb1 hns
      go_wp2_with (first | (at_builtin; refine wpList_append_S w1 rfl (.tmp 15) (.tmp 18) 202 rfl 9 (.string ⟨#[]⟩) 1 16 Try.underlying202 (by kernel_rfl) rfl (by omega) (w.heap.size + 1) (.slice Av j cv) j _ G2.out (D.str (t.kids[j]).text) [.string (t.kids[j]).text] HD.out hszw1 rfl (by simp [Value.oneCell']) (by omega) (by omega) 9 rfl w1.heap.size rfl rfl ?_; intro g cap w3 G3 Bq3 hs3 hg3 hgl3))
      go_roundw
      case rel => exact ⟨j + 1, some ⟨g, 0, none⟩, cap, by omega, by go_num, rfl, Lib.hid (by rw [HT.out, List.map_append]; exact G3), Lib.hid (B2.out.trans Bq3)⟩
      case measure => simp [intOf]; omega
    · have hjl : j = t.kids.length := by omega
      have HT := Lib.hid (show (t.kids.map GNode.text).take j = t.kids.map GNode.text by rw [hjl, List.take_of_length_le (by simp)])
      rw [HT.out] at HG
      have RW := Lib.hid (R.out.below HB.out (Nat.lt_succ_self _))
      have BW := Lib.hid (E.out.trans (HB.out.mono (Nat.le_succ _)))
      have hR := fun i => RW.out.cell i
      have q0 := upRow RW.out
      have hl := hll.out
      obtain ⟨A9, c9, eV, hSL⟩ := HG.out.sl hszw
      cases eV
      subst hjl
      obtain ⟨b0, f0, ee0, hs0, z0, hm0⟩ := hSL.strAtW 0 (by simpa using (by omega : 0 < t.kids.length))
      subst ee0
      rw [← Ha.out (by simpa using (by omega : 0 < t.kids.length))] at z0
      obtain ⟨b1, f1, ee1, hs1, z1, hm1⟩ := hSL.strAtW 1 (by simpa using (by omega : 1 < t.kids.length))
      simp only [Option.some.injEq, Addr.mk.injEq, and_true] at ee1
      obtain ⟨rfl, rfl⟩ := ee1
      rw [← Hb.out (by simpa using (by omega : 1 < t.kids.length))] at z1
      have hi0 : (0 : Int) < (t.kids.length : Int) := by omega
      have hin0 : 0 < t.kids.length := by omega
      have hi1 : (1 : Int) < (t.kids.length : Int) := by omega
      have hin1 : 1 < t.kids.length := by omega
      have u0 := upCell (p := ⟨b0, f0 + 0, none⟩) hs0 z0
      have u1 := upCell (p := ⟨b0, f0 + 1, none⟩) hs1 z1
      simp only [Nat.add_zero] at u0 z0 u1 z1
      clear hl hSL hm0 hm1
      go_wp2_with fail
      refine wp_region_up wr (Below.refl _ _) (by kernel_rfl) (by kernel_rfl) ?_
      repeat (go_big_quiet_step (fail))
      refine wpQuiet_nil ?_
      rintro w9 ⟨x9, e9⟩
      have B9 := Lib.hid (show Below wr.heap.size wr w9 by rw [e9]; exact x9.h)
      have R9 := Lib.hid (RW.out.below B9.out RW.out.lt)
      have hc9 := fun i => R9.out.cell i
      clear e9 x9 q0
      go_wp2_with fail
      go_ret
      exact ⟨ret_str (by rw [hv.out]), BW.out.trans (B9.out.mono BW.out.size)⟩

set_option maxRecDepth 20000 in
theorem implWrite_3 (t : GNode) (A1 : Option Addr) (c1 : Nat) (w : World) (hb : t.bulk ≤ 1048576) (o : t.op = 3) (hl : t.kids.length = 1)
    (HE : ∀ x ∈ t.kids, ∀ (A2 : Option Addr) (c2 : Nat) (w2 : World), GNode.At w2 (Lt w2.heap.size) A2 c2 x → Calls Try.prog 168 #[.agg #[.int .i64 x.op, .int .i64 x.n, .string x.s, .string x.t, .slice A2 x.kids.length c2]] w2 fun e w' => e = .returned (.string x.text) ∧ Below w2.heap.size w2 w')
    (ht : GNode.At w (Lt w.heap.size) A1 c1 t) :
    Calls Try.prog 168 #[.agg #[.int .i64 t.op, .int .i64 t.n, .string t.s, .string t.t, .slice A1 t.kids.length c1]] w fun e w' => e = .returned (.string t.text) ∧ Below w.heap.size w w' := by
  obtain ⟨h0, h1, h2, h3, hk⟩ := id ht
  have hn := wf64 h1
  have hlen : t.kids.length ≤ 9223372036854775807 := by simpa using hk.len
  have hbe := t.bulk_eq
  have hlb := bulkL_len GNode.bulk t.kids
  have hl6 : t.kids.length ≤ 1048576 := by omega
  have hzs : t.s.size ≤ 1048576 := by omega
  have hzt : t.t.size ≤ 1048576 := by omega
  have hzl := t.lens_kids
  have hzl2 : lensB (t.kids.map GNode.text) ≤ 41943040 := by omega
  obtain ⟨w0, ew⟩ : ∃ w0, w0 = (w.alloc (.cells #[.int .i64 t.op, .int .i64 t.n, .string t.s, .string t.t, .slice A1 t.kids.length c1] 49)).alloc (.cells #[] 9) := ⟨_, rfl⟩
  have E := Lib.hid (show Below w.heap.size w w0 by rw [ew]; exact ((Below.refl _ _).alloc (Nat.le_refl _) _).alloc (by simp) _)
  have R := Lib.hid (show Row w0 w.heap.size 49 #[.int .i64 t.op, .int .i64 t.n, .string t.s, .string t.t, .slice A1 t.kids.length c1] by rw [ew]; exact (Row.new _ _ _).alloc _)
  have G0 := Lib.hid (show Gsh w0 (w.heap.size + 1) 9 1 (.slice (some ⟨w.heap.size + 1, 0, none⟩) 0 0) 0 [] from Gsh.made (by rw [ew]; exact Row.new' _ _ _ (by simp)) (Nat.le_refl _))
  have HSZ := Lib.hid (show w.heap.size + 1 ≤ w0.heap.size by rw [ew]; simp)
  have EQ := Lib.hid ew
  have K0 := Lib.hid (hk.below E.out (Nat.le_refl _))
  have HX := Lib.hid (fun (j : Nat) (hj : j < t.kids.length) => HE t.kids[j] (List.getElem_mem hj))
  have HZK := Lib.hid (fun (j : Nat) (hj : j < t.kids.length) => show (t.kids[j]).text.size ≤ 41943060 from by have := (t.kids[j]).text_size; have := bulkL_mem GNode.bulk t.kids _ (List.getElem_mem hj); omega)
  obtain ⟨a, ea⟩ : ∃ x, x = atB (t.kids.map GNode.text) 0 := ⟨_, rfl⟩
  have Ha := Lib.hid (show ∀ h : 0 < (t.kids.map GNode.text).length, a = (t.kids.map GNode.text)[0] from fun h => by rw [ea, atB_get h])
  have hza : a.size ≤ 41943040 := by rw [Ha.out (by simpa using (by omega : 0 < t.kids.length))]; exact Nat.le_trans (lensB_get _) hzl2
  have hv := Lib.hid (show t.text = ⟨#[40]⟩ ++ (⟨#[102, 117, 110, 32]⟩ ++ t.s ++ ⟨#[32, 45, 62, 32]⟩ ++ a) ++ ⟨#[41]⟩ by rw [t.text_eq]; unfold nodeTextOf; rw [if_neg (by omega), if_neg (by omega), if_neg (by omega), if_neg (by omega), if_neg (by omega)]; unfold bodyOf; rw [if_pos o]; rw [← ea])
  have p1 : (t.op == 1) = false := beq_eq_false_iff_ne.2 (by omega)
  have p19 : (t.op == 19) = false := beq_eq_false_iff_ne.2 (by omega)
  have p2 : (t.op == 2) = false := beq_eq_false_iff_ne.2 (by omega)
  have p18 : (t.op == 18) = false := beq_eq_false_iff_ne.2 (by omega)
  have p17 : (t.op == 17) = false := beq_eq_false_iff_ne.2 (by omega)
  have p8 : (t.op == 8) = false := beq_eq_false_iff_ne.2 (by omega)
  have p3 : (t.op == 3) = true := beq_iff_eq.2 o
  have zz0 : ¬ 9223372036854775807 < 4 + t.s.size := by omega
  have zz1 : ¬ 9223372036854775807 < 4 + t.s.size + 4 := by omega
  have zz2 : ¬ 9223372036854775807 < 4 + t.s.size + 4 + a.size := by omega
  have zy : ¬ 9223372036854775807 < 1 + (4 + t.s.size + 4 + a.size) := by omega
  have zx : ¬ 9223372036854775807 < 1 + (4 + t.s.size + 4 + a.size) + 1 := by omega
  have hll := Lib.hid (show 1 ≤ t.kids.length by omega)
  clear ea
  clear o hl
  clear HE ht h0 h1 h2 h3 hk hbe hlb hzl ew hb
  go_enter Try.func168, Try.ntmps168
  go_wp2_with fail
  rw [← EQ.out]
  go_loopw [3, 11] (fun v i wr => ∃ (j : Nat) (Av : Option Addr) (cv : Nat), j ≤ t.kids.length ∧ i = .int .i64 j ∧ v = .slice Av j cv ∧ Hid (Gsh wr (w.heap.size + 1) 9 1 (.slice Av j cv) j (((t.kids.map GNode.text).take j).map D.str)) ∧ Hid (Below (w.heap.size + 1) w0 wr)) (fun _ i _ => t.kids.length - (intOf i).toNat)
  case atStart => exact ⟨0, _, _, by omega, by go_num, rfl, G0, Lib.hid (Below.refl _ _)⟩
  case round =>
    clear G0
    obtain ⟨j, Av, cv, hj, rfl, rfl, HG, HB⟩ := hrel
    have hszw : w.heap.size + 1 ≤ wr.heap.size := Nat.le_trans HSZ.out HB.out.size
    by_cases hlt : j < t.kids.length
    · obtain ⟨b, off, A2, c2, eA, hSb, g0, g1, g2, g3, g4, hat⟩ := GNode.elem (K0.out.keep (w' := wr) (S' := Lt w.heap.size) (fun q hq => ⟨hq, HB.out.block q (Nat.lt_succ_of_lt hq)⟩)) j hlt
      subst eA
      have E1 := Lib.hid (show Below wr.heap.size wr (wr.alloc (.cells #[.int .i64 (t.kids[j]).op, .int .i64 (t.kids[j]).n, .string (t.kids[j]).s, .string (t.kids[j]).t, .slice A2 (t.kids[j]).kids.length c2] 49)) from (Below.refl _ _).alloc (Nat.le_refl _) _)
      have HXJ := Lib.hid (HX.out j hlt A2 c2 (wr.alloc (.cells #[.int .i64 (t.kids[j]).op, .int .i64 (t.kids[j]).n, .string (t.kids[j]).s, .string (t.kids[j]).t, .slice A2 (t.kids[j]).kids.length c2] 49)) ((hat.below (Below.refl _ _) (by omega : w.heap.size ≤ wr.heap.size)).below E1.out E1.out.size))
      have G1 := Lib.hid (HG.out.below E1.out hszw)
      have B1 := Lib.hid (HB.out.trans (E1.out.mono hszw))
      have hzk := HZK.out j hlt
      have HT := Lib.hid (show (t.kids.map GNode.text).take (j + 1) = (t.kids.map GNode.text).take j ++ [(t.kids[j]).text] by rw [List.take_succ_eq_append_getElem (by simpa using hlt), List.getElem_map])
      have hns : (t.kids[j]).text.size ≤ maxLen := by unfold maxLen; omega
      clear hat
      go_wp2_with fail
      refine HXJ.out.mono ?_
      rintro e w1 ⟨rfl, hb1⟩
      have hszw1 := Nat.le_trans hszw (Nat.le_trans E1.out.size hb1.size)
      have G2 := Lib.hid (G1.out.below hb1 (Nat.le_trans hszw E1.out.size))
      have B2 := Lib.hid (B1.out.trans (hb1.mono (Nat.le_trans hszw E1.out.size)))
      have HD := Lib.hid (show (D.str (t.kids[j]).text).rd w1 (Lt (w.heap.size + 1)) [.string (t.kids[j]).text] from D.rd_str.2 ⟨rfl, hns⟩)
      clear hb1 hns
      go_wp2_with (first | (at_builtin; refine wpList_append_S w1 rfl (.tmp 15) (.tmp 18) 202 rfl 9 (.string ⟨#[]⟩) 1 16 Try.underlying202 (by kernel_rfl) rfl (by omega) (w.heap.size + 1) (.slice Av j cv) j _ G2.out (D.str (t.kids[j]).text) [.string (t.kids[j]).text] HD.out hszw1 rfl (by simp [Value.oneCell']) (by omega) (by omega) 9 rfl w1.heap.size rfl rfl ?_; intro g cap w3 G3 Bq3 hs3 hg3 hgl3))
      go_roundw
      case rel => exact ⟨j + 1, some ⟨g, 0, none⟩, cap, by omega, by go_num, rfl, Lib.hid (by rw [HT.out, List.map_append]; exact G3), Lib.hid (B2.out.trans Bq3)⟩
      case measure => simp [intOf]; omega
    · have hjl : j = t.kids.length := by omega
      have HT := Lib.hid (show (t.kids.map GNode.text).take j = t.kids.map GNode.text by rw [hjl, List.take_of_length_le (by simp)])
      rw [HT.out] at HG
      have RW := Lib.hid (R.out.below HB.out (Nat.lt_succ_self _))
      have BW := Lib.hid (E.out.trans (HB.out.mono (Nat.le_succ _)))
      have hR := fun i => RW.out.cell i
      have q0 := upRow RW.out
      have hl := hll.out
      obtain ⟨A9, c9, eV, hSL⟩ := HG.out.sl hszw
      cases eV
      subst hjl
      obtain ⟨b0, f0, ee0, hs0, z0, hm0⟩ := hSL.strAtW 0 (by simpa using (by omega : 0 < t.kids.length))
      subst ee0
      rw [← Ha.out (by simpa using (by omega : 0 < t.kids.length))] at z0
      have hi0 : (0 : Int) < (t.kids.length : Int) := by omega
      have hin0 : 0 < t.kids.length := by omega
      have u0 := upCell (p := ⟨b0, f0 + 0, none⟩) hs0 z0
      simp only [Nat.add_zero] at u0 z0
      clear hl hSL hm0
      go_wp2_with fail
      refine wp_region_up wr (Below.refl _ _) (by kernel_rfl) (by kernel_rfl) ?_
      repeat (go_big_quiet_step (fail))
      refine wpQuiet_nil ?_
      rintro w9 ⟨x9, e9⟩
      have B9 := Lib.hid (show Below wr.heap.size wr w9 by rw [e9]; exact x9.h)
      have R9 := Lib.hid (RW.out.below B9.out RW.out.lt)
      have hc9 := fun i => R9.out.cell i
      clear e9 x9 q0
      go_wp2_with fail
      go_ret
      exact ⟨ret_str (by rw [hv.out]), BW.out.trans (B9.out.mono BW.out.size)⟩

set_option maxRecDepth 20000 in
theorem implWrite_5 (t : GNode) (A1 : Option Addr) (c1 : Nat) (w : World) (hb : t.bulk ≤ 1048576) (o : t.op = 5) (hl : t.kids.length = 2)
    (HE : ∀ x ∈ t.kids, ∀ (A2 : Option Addr) (c2 : Nat) (w2 : World), GNode.At w2 (Lt w2.heap.size) A2 c2 x → Calls Try.prog 168 #[.agg #[.int .i64 x.op, .int .i64 x.n, .string x.s, .string x.t, .slice A2 x.kids.length c2]] w2 fun e w' => e = .returned (.string x.text) ∧ Below w2.heap.size w2 w')
    (ht : GNode.At w (Lt w.heap.size) A1 c1 t) :
    Calls Try.prog 168 #[.agg #[.int .i64 t.op, .int .i64 t.n, .string t.s, .string t.t, .slice A1 t.kids.length c1]] w fun e w' => e = .returned (.string t.text) ∧ Below w.heap.size w w' := by
  obtain ⟨h0, h1, h2, h3, hk⟩ := id ht
  have hn := wf64 h1
  have hlen : t.kids.length ≤ 9223372036854775807 := by simpa using hk.len
  have hbe := t.bulk_eq
  have hlb := bulkL_len GNode.bulk t.kids
  have hl6 : t.kids.length ≤ 1048576 := by omega
  have hzs : t.s.size ≤ 1048576 := by omega
  have hzt : t.t.size ≤ 1048576 := by omega
  have hzl := t.lens_kids
  have hzl2 : lensB (t.kids.map GNode.text) ≤ 41943040 := by omega
  obtain ⟨w0, ew⟩ : ∃ w0, w0 = (w.alloc (.cells #[.int .i64 t.op, .int .i64 t.n, .string t.s, .string t.t, .slice A1 t.kids.length c1] 49)).alloc (.cells #[] 9) := ⟨_, rfl⟩
  have E := Lib.hid (show Below w.heap.size w w0 by rw [ew]; exact ((Below.refl _ _).alloc (Nat.le_refl _) _).alloc (by simp) _)
  have R := Lib.hid (show Row w0 w.heap.size 49 #[.int .i64 t.op, .int .i64 t.n, .string t.s, .string t.t, .slice A1 t.kids.length c1] by rw [ew]; exact (Row.new _ _ _).alloc _)
  have G0 := Lib.hid (show Gsh w0 (w.heap.size + 1) 9 1 (.slice (some ⟨w.heap.size + 1, 0, none⟩) 0 0) 0 [] from Gsh.made (by rw [ew]; exact Row.new' _ _ _ (by simp)) (Nat.le_refl _))
  have HSZ := Lib.hid (show w.heap.size + 1 ≤ w0.heap.size by rw [ew]; simp)
  have EQ := Lib.hid ew
  have K0 := Lib.hid (hk.below E.out (Nat.le_refl _))
  have HX := Lib.hid (fun (j : Nat) (hj : j < t.kids.length) => HE t.kids[j] (List.getElem_mem hj))
  have HZK := Lib.hid (fun (j : Nat) (hj : j < t.kids.length) => show (t.kids[j]).text.size ≤ 41943060 from by have := (t.kids[j]).text_size; have := bulkL_mem GNode.bulk t.kids _ (List.getElem_mem hj); omega)
  obtain ⟨a, ea⟩ : ∃ x, x = atB (t.kids.map GNode.text) 0 := ⟨_, rfl⟩
  have Ha := Lib.hid (show ∀ h : 0 < (t.kids.map GNode.text).length, a = (t.kids.map GNode.text)[0] from fun h => by rw [ea, atB_get h])
  have hza : a.size ≤ 41943040 := by rw [Ha.out (by simpa using (by omega : 0 < t.kids.length))]; exact Nat.le_trans (lensB_get _) hzl2
  obtain ⟨b, eb⟩ : ∃ x, x = atB (t.kids.map GNode.text) 1 := ⟨_, rfl⟩
  have Hb := Lib.hid (show ∀ h : 1 < (t.kids.map GNode.text).length, b = (t.kids.map GNode.text)[1] from fun h => by rw [eb, atB_get h])
  have hzb : b.size ≤ 41943040 := by rw [Hb.out (by simpa using (by omega : 1 < t.kids.length))]; exact Nat.le_trans (lensB_get _) hzl2
  have hv := Lib.hid (show t.text = ⟨#[40]⟩ ++ (⟨#[108, 101, 116, 32]⟩ ++ t.s ++ ⟨#[32, 61, 32]⟩ ++ a ++ ⟨#[32, 105, 110, 32]⟩ ++ b) ++ ⟨#[41]⟩ by rw [t.text_eq]; unfold nodeTextOf; rw [if_neg (by omega), if_neg (by omega), if_neg (by omega), if_neg (by omega), if_neg (by omega)]; unfold bodyOf; rw [if_neg (by omega), if_neg (by omega), if_pos o]; rw [← ea, ← eb])
  have p1 : (t.op == 1) = false := beq_eq_false_iff_ne.2 (by omega)
  have p19 : (t.op == 19) = false := beq_eq_false_iff_ne.2 (by omega)
  have p2 : (t.op == 2) = false := beq_eq_false_iff_ne.2 (by omega)
  have p18 : (t.op == 18) = false := beq_eq_false_iff_ne.2 (by omega)
  have p17 : (t.op == 17) = false := beq_eq_false_iff_ne.2 (by omega)
  have p8 : (t.op == 8) = false := beq_eq_false_iff_ne.2 (by omega)
  have p3 : (t.op == 3) = false := beq_eq_false_iff_ne.2 (by omega)
  have p4 : (t.op == 4) = false := beq_eq_false_iff_ne.2 (by omega)
  have p5 : (t.op == 5) = true := beq_iff_eq.2 o
  have zz0 : ¬ 9223372036854775807 < 4 + t.s.size := by omega
  have zz1 : ¬ 9223372036854775807 < 4 + t.s.size + 3 := by omega
  have zz2 : ¬ 9223372036854775807 < 4 + t.s.size + 3 + a.size := by omega
  have zz3 : ¬ 9223372036854775807 < 4 + t.s.size + 3 + a.size + 4 := by omega
  have zz4 : ¬ 9223372036854775807 < 4 + t.s.size + 3 + a.size + 4 + b.size := by omega
  have zy : ¬ 9223372036854775807 < 1 + (4 + t.s.size + 3 + a.size + 4 + b.size) := by omega
  have zx : ¬ 9223372036854775807 < 1 + (4 + t.s.size + 3 + a.size + 4 + b.size) + 1 := by omega
  have hll := Lib.hid (show 2 ≤ t.kids.length by omega)
  clear ea eb
  clear o hl
  clear HE ht h0 h1 h2 h3 hk hbe hlb hzl ew hb
  go_enter Try.func168, Try.ntmps168
  go_wp2_with fail
  rw [← EQ.out]
  go_loopw [3, 11] (fun v i wr => ∃ (j : Nat) (Av : Option Addr) (cv : Nat), j ≤ t.kids.length ∧ i = .int .i64 j ∧ v = .slice Av j cv ∧ Hid (Gsh wr (w.heap.size + 1) 9 1 (.slice Av j cv) j (((t.kids.map GNode.text).take j).map D.str)) ∧ Hid (Below (w.heap.size + 1) w0 wr)) (fun _ i _ => t.kids.length - (intOf i).toNat)
  case atStart => exact ⟨0, _, _, by omega, by go_num, rfl, G0, Lib.hid (Below.refl _ _)⟩
  case round =>
    clear G0
    obtain ⟨j, Av, cv, hj, rfl, rfl, HG, HB⟩ := hrel
    have hszw : w.heap.size + 1 ≤ wr.heap.size := Nat.le_trans HSZ.out HB.out.size
    by_cases hlt : j < t.kids.length
    · obtain ⟨b, off, A2, c2, eA, hSb, g0, g1, g2, g3, g4, hat⟩ := GNode.elem (K0.out.keep (w' := wr) (S' := Lt w.heap.size) (fun q hq => ⟨hq, HB.out.block q (Nat.lt_succ_of_lt hq)⟩)) j hlt
      subst eA
      have E1 := Lib.hid (show Below wr.heap.size wr (wr.alloc (.cells #[.int .i64 (t.kids[j]).op, .int .i64 (t.kids[j]).n, .string (t.kids[j]).s, .string (t.kids[j]).t, .slice A2 (t.kids[j]).kids.length c2] 49)) from (Below.refl _ _).alloc (Nat.le_refl _) _)
      have HXJ := Lib.hid (HX.out j hlt A2 c2 (wr.alloc (.cells #[.int .i64 (t.kids[j]).op, .int .i64 (t.kids[j]).n, .string (t.kids[j]).s, .string (t.kids[j]).t, .slice A2 (t.kids[j]).kids.length c2] 49)) ((hat.below (Below.refl _ _) (by omega : w.heap.size ≤ wr.heap.size)).below E1.out E1.out.size))
      have G1 := Lib.hid (HG.out.below E1.out hszw)
      have B1 := Lib.hid (HB.out.trans (E1.out.mono hszw))
      have hzk := HZK.out j hlt
      have HT := Lib.hid (show (t.kids.map GNode.text).take (j + 1) = (t.kids.map GNode.text).take j ++ [(t.kids[j]).text] by rw [List.take_succ_eq_append_getElem (by simpa using hlt), List.getElem_map])
      have hns : (t.kids[j]).text.size ≤ maxLen := by unfold maxLen; omega
      clear hat
      go_wp2_with fail
      refine HXJ.out.mono ?_
      rintro e w1 ⟨rfl, hb1⟩
      have hszw1 := Nat.le_trans hszw (Nat.le_trans E1.out.size hb1.size)
      have G2 := Lib.hid (G1.out.below hb1 (Nat.le_trans hszw E1.out.size))
      have B2 := Lib.hid (B1.out.trans (hb1.mono (Nat.le_trans hszw E1.out.size)))
      have HD := Lib.hid (show (D.str (t.kids[j]).text).rd w1 (Lt (w.heap.size + 1)) [.string (t.kids[j]).text] from D.rd_str.2 ⟨rfl, hns⟩)
      clear hb1 hns
      go_wp2_with (first | (at_builtin; refine wpList_append_S w1 rfl (.tmp 15) (.tmp 18) 202 rfl 9 (.string ⟨#[]⟩) 1 16 Try.underlying202 (by kernel_rfl) rfl (by omega) (w.heap.size + 1) (.slice Av j cv) j _ G2.out (D.str (t.kids[j]).text) [.string (t.kids[j]).text] HD.out hszw1 rfl (by simp [Value.oneCell']) (by omega) (by omega) 9 rfl w1.heap.size rfl rfl ?_; intro g cap w3 G3 Bq3 hs3 hg3 hgl3))
      go_roundw
      case rel => exact ⟨j + 1, some ⟨g, 0, none⟩, cap, by omega, by go_num, rfl, Lib.hid (by rw [HT.out, List.map_append]; exact G3), Lib.hid (B2.out.trans Bq3)⟩
      case measure => simp [intOf]; omega
    · have hjl : j = t.kids.length := by omega
      have HT := Lib.hid (show (t.kids.map GNode.text).take j = t.kids.map GNode.text by rw [hjl, List.take_of_length_le (by simp)])
      rw [HT.out] at HG
      have RW := Lib.hid (R.out.below HB.out (Nat.lt_succ_self _))
      have BW := Lib.hid (E.out.trans (HB.out.mono (Nat.le_succ _)))
      have hR := fun i => RW.out.cell i
      have q0 := upRow RW.out
      have hl := hll.out
      obtain ⟨A9, c9, eV, hSL⟩ := HG.out.sl hszw
      cases eV
      subst hjl
      obtain ⟨b0, f0, ee0, hs0, z0, hm0⟩ := hSL.strAtW 0 (by simpa using (by omega : 0 < t.kids.length))
      subst ee0
      rw [← Ha.out (by simpa using (by omega : 0 < t.kids.length))] at z0
      obtain ⟨b1, f1, ee1, hs1, z1, hm1⟩ := hSL.strAtW 1 (by simpa using (by omega : 1 < t.kids.length))
      simp only [Option.some.injEq, Addr.mk.injEq, and_true] at ee1
      obtain ⟨rfl, rfl⟩ := ee1
      rw [← Hb.out (by simpa using (by omega : 1 < t.kids.length))] at z1
      have hi0 : (0 : Int) < (t.kids.length : Int) := by omega
      have hin0 : 0 < t.kids.length := by omega
      have hi1 : (1 : Int) < (t.kids.length : Int) := by omega
      have hin1 : 1 < t.kids.length := by omega
      have u0 := upCell (p := ⟨b0, f0 + 0, none⟩) hs0 z0
      have u1 := upCell (p := ⟨b0, f0 + 1, none⟩) hs1 z1
      simp only [Nat.add_zero] at u0 z0 u1 z1
      clear hl hSL hm0 hm1
      go_wp2_with fail
      refine wp_region_up wr (Below.refl _ _) (by kernel_rfl) (by kernel_rfl) ?_
      repeat (go_big_quiet_step (fail))
      refine wpQuiet_nil ?_
      rintro w9 ⟨x9, e9⟩
      have B9 := Lib.hid (show Below wr.heap.size wr w9 by rw [e9]; exact x9.h)
      have R9 := Lib.hid (RW.out.below B9.out RW.out.lt)
      have hc9 := fun i => R9.out.cell i
      clear e9 x9 q0
      go_wp2_with fail
      go_ret
      exact ⟨ret_str (by rw [hv.out]), BW.out.trans (B9.out.mono BW.out.size)⟩

end Go.Proofs.Ytgbcdfeflgnogaa

/- The program's write (3). Conditions: what the program holds is at most 1048576. -/
namespace Go.Proofs.Ytgbcdfeflgnogaa
open Go.RowKit Go.BigFrame
set_option linter.unusedVariables false
set_option linter.unusedSimpArgs false
set_option maxHeartbeats 4000000

set_option maxRecDepth 20000 in
theorem implWrite_6 (t : GNode) (A1 : Option Addr) (c1 : Nat) (w : World) (hb : t.bulk ≤ 1048576) (o : t.op = 6) (hl : t.kids.length = 2)
    (HE : ∀ x ∈ t.kids, ∀ (A2 : Option Addr) (c2 : Nat) (w2 : World), GNode.At w2 (Lt w2.heap.size) A2 c2 x → Calls Try.prog 168 #[.agg #[.int .i64 x.op, .int .i64 x.n, .string x.s, .string x.t, .slice A2 x.kids.length c2]] w2 fun e w' => e = .returned (.string x.text) ∧ Below w2.heap.size w2 w')
    (ht : GNode.At w (Lt w.heap.size) A1 c1 t) :
    Calls Try.prog 168 #[.agg #[.int .i64 t.op, .int .i64 t.n, .string t.s, .string t.t, .slice A1 t.kids.length c1]] w fun e w' => e = .returned (.string t.text) ∧ Below w.heap.size w w' := by
  obtain ⟨h0, h1, h2, h3, hk⟩ := id ht
  have hn := wf64 h1
  have hlen : t.kids.length ≤ 9223372036854775807 := by simpa using hk.len
  have hbe := t.bulk_eq
  have hlb := bulkL_len GNode.bulk t.kids
  have hl6 : t.kids.length ≤ 1048576 := by omega
  have hzs : t.s.size ≤ 1048576 := by omega
  have hzt : t.t.size ≤ 1048576 := by omega
  have hzl := t.lens_kids
  have hzl2 : lensB (t.kids.map GNode.text) ≤ 41943040 := by omega
  obtain ⟨w0, ew⟩ : ∃ w0, w0 = (w.alloc (.cells #[.int .i64 t.op, .int .i64 t.n, .string t.s, .string t.t, .slice A1 t.kids.length c1] 49)).alloc (.cells #[] 9) := ⟨_, rfl⟩
  have E := Lib.hid (show Below w.heap.size w w0 by rw [ew]; exact ((Below.refl _ _).alloc (Nat.le_refl _) _).alloc (by simp) _)
  have R := Lib.hid (show Row w0 w.heap.size 49 #[.int .i64 t.op, .int .i64 t.n, .string t.s, .string t.t, .slice A1 t.kids.length c1] by rw [ew]; exact (Row.new _ _ _).alloc _)
  have G0 := Lib.hid (show Gsh w0 (w.heap.size + 1) 9 1 (.slice (some ⟨w.heap.size + 1, 0, none⟩) 0 0) 0 [] from Gsh.made (by rw [ew]; exact Row.new' _ _ _ (by simp)) (Nat.le_refl _))
  have HSZ := Lib.hid (show w.heap.size + 1 ≤ w0.heap.size by rw [ew]; simp)
  have EQ := Lib.hid ew
  have K0 := Lib.hid (hk.below E.out (Nat.le_refl _))
  have HX := Lib.hid (fun (j : Nat) (hj : j < t.kids.length) => HE t.kids[j] (List.getElem_mem hj))
  have HZK := Lib.hid (fun (j : Nat) (hj : j < t.kids.length) => show (t.kids[j]).text.size ≤ 41943060 from by have := (t.kids[j]).text_size; have := bulkL_mem GNode.bulk t.kids _ (List.getElem_mem hj); omega)
  obtain ⟨a, ea⟩ : ∃ x, x = atB (t.kids.map GNode.text) 0 := ⟨_, rfl⟩
  have Ha := Lib.hid (show ∀ h : 0 < (t.kids.map GNode.text).length, a = (t.kids.map GNode.text)[0] from fun h => by rw [ea, atB_get h])
  have hza : a.size ≤ 41943040 := by rw [Ha.out (by simpa using (by omega : 0 < t.kids.length))]; exact Nat.le_trans (lensB_get _) hzl2
  obtain ⟨b, eb⟩ : ∃ x, x = atB (t.kids.map GNode.text) 1 := ⟨_, rfl⟩
  have Hb := Lib.hid (show ∀ h : 1 < (t.kids.map GNode.text).length, b = (t.kids.map GNode.text)[1] from fun h => by rw [eb, atB_get h])
  have hzb : b.size ≤ 41943040 := by rw [Hb.out (by simpa using (by omega : 1 < t.kids.length))]; exact Nat.le_trans (lensB_get _) hzl2
  have hv := Lib.hid (show t.text = ⟨#[40]⟩ ++ (⟨#[114, 101, 99, 32]⟩ ++ t.s ++ ⟨#[32]⟩ ++ t.t ++ ⟨#[32, 61, 32]⟩ ++ a ++ ⟨#[32, 105, 110, 32]⟩ ++ b) ++ ⟨#[41]⟩ by rw [t.text_eq]; unfold nodeTextOf; rw [if_neg (by omega), if_neg (by omega), if_neg (by omega), if_neg (by omega), if_neg (by omega)]; unfold bodyOf; rw [if_neg (by omega), if_neg (by omega), if_neg (by omega), if_pos o]; rw [← ea, ← eb])
  have p1 : (t.op == 1) = false := beq_eq_false_iff_ne.2 (by omega)
  have p19 : (t.op == 19) = false := beq_eq_false_iff_ne.2 (by omega)
  have p2 : (t.op == 2) = false := beq_eq_false_iff_ne.2 (by omega)
  have p18 : (t.op == 18) = false := beq_eq_false_iff_ne.2 (by omega)
  have p17 : (t.op == 17) = false := beq_eq_false_iff_ne.2 (by omega)
  have p8 : (t.op == 8) = false := beq_eq_false_iff_ne.2 (by omega)
  have p3 : (t.op == 3) = false := beq_eq_false_iff_ne.2 (by omega)
  have p4 : (t.op == 4) = false := beq_eq_false_iff_ne.2 (by omega)
  have p5 : (t.op == 5) = false := beq_eq_false_iff_ne.2 (by omega)
  have p6 : (t.op == 6) = true := beq_iff_eq.2 o
  have zz0 : ¬ 9223372036854775807 < 4 + t.s.size := by omega
  have zz1 : ¬ 9223372036854775807 < 4 + t.s.size + 1 := by omega
  have zz2 : ¬ 9223372036854775807 < 4 + t.s.size + 1 + t.t.size := by omega
  have zz3 : ¬ 9223372036854775807 < 4 + t.s.size + 1 + t.t.size + 3 := by omega
  have zz4 : ¬ 9223372036854775807 < 4 + t.s.size + 1 + t.t.size + 3 + a.size := by omega
  have zz5 : ¬ 9223372036854775807 < 4 + t.s.size + 1 + t.t.size + 3 + a.size + 4 := by omega
  have zz6 : ¬ 9223372036854775807 < 4 + t.s.size + 1 + t.t.size + 3 + a.size + 4 + b.size := by omega
  have zy : ¬ 9223372036854775807 < 1 + (4 + t.s.size + 1 + t.t.size + 3 + a.size + 4 + b.size) := by omega
  have zx : ¬ 9223372036854775807 < 1 + (4 + t.s.size + 1 + t.t.size + 3 + a.size + 4 + b.size) + 1 := by omega
  have hll := Lib.hid (show 2 ≤ t.kids.length by omega)
  clear ea eb
  clear o hl
  clear HE ht h0 h1 h2 h3 hk hbe hlb hzl ew hb
  go_enter Try.func168, Try.ntmps168
  go_wp2_with fail
  rw [← EQ.out]
  go_loopw [3, 11] (fun v i wr => ∃ (j : Nat) (Av : Option Addr) (cv : Nat), j ≤ t.kids.length ∧ i = .int .i64 j ∧ v = .slice Av j cv ∧ Hid (Gsh wr (w.heap.size + 1) 9 1 (.slice Av j cv) j (((t.kids.map GNode.text).take j).map D.str)) ∧ Hid (Below (w.heap.size + 1) w0 wr)) (fun _ i _ => t.kids.length - (intOf i).toNat)
  case atStart => exact ⟨0, _, _, by omega, by go_num, rfl, G0, Lib.hid (Below.refl _ _)⟩
  case round =>
    clear G0
    obtain ⟨j, Av, cv, hj, rfl, rfl, HG, HB⟩ := hrel
    have hszw : w.heap.size + 1 ≤ wr.heap.size := Nat.le_trans HSZ.out HB.out.size
    by_cases hlt : j < t.kids.length
    · obtain ⟨b, off, A2, c2, eA, hSb, g0, g1, g2, g3, g4, hat⟩ := GNode.elem (K0.out.keep (w' := wr) (S' := Lt w.heap.size) (fun q hq => ⟨hq, HB.out.block q (Nat.lt_succ_of_lt hq)⟩)) j hlt
      subst eA
      have E1 := Lib.hid (show Below wr.heap.size wr (wr.alloc (.cells #[.int .i64 (t.kids[j]).op, .int .i64 (t.kids[j]).n, .string (t.kids[j]).s, .string (t.kids[j]).t, .slice A2 (t.kids[j]).kids.length c2] 49)) from (Below.refl _ _).alloc (Nat.le_refl _) _)
      have HXJ := Lib.hid (HX.out j hlt A2 c2 (wr.alloc (.cells #[.int .i64 (t.kids[j]).op, .int .i64 (t.kids[j]).n, .string (t.kids[j]).s, .string (t.kids[j]).t, .slice A2 (t.kids[j]).kids.length c2] 49)) ((hat.below (Below.refl _ _) (by omega : w.heap.size ≤ wr.heap.size)).below E1.out E1.out.size))
      have G1 := Lib.hid (HG.out.below E1.out hszw)
      have B1 := Lib.hid (HB.out.trans (E1.out.mono hszw))
      have hzk := HZK.out j hlt
      have HT := Lib.hid (show (t.kids.map GNode.text).take (j + 1) = (t.kids.map GNode.text).take j ++ [(t.kids[j]).text] by rw [List.take_succ_eq_append_getElem (by simpa using hlt), List.getElem_map])
      have hns : (t.kids[j]).text.size ≤ maxLen := by unfold maxLen; omega
      clear hat
      go_wp2_with fail
      refine HXJ.out.mono ?_
      rintro e w1 ⟨rfl, hb1⟩
      have hszw1 := Nat.le_trans hszw (Nat.le_trans E1.out.size hb1.size)
      have G2 := Lib.hid (G1.out.below hb1 (Nat.le_trans hszw E1.out.size))
      have B2 := Lib.hid (B1.out.trans (hb1.mono (Nat.le_trans hszw E1.out.size)))
      have HD := Lib.hid (show (D.str (t.kids[j]).text).rd w1 (Lt (w.heap.size + 1)) [.string (t.kids[j]).text] from D.rd_str.2 ⟨rfl, hns⟩)
      clear hb1 hns
      go_wp2_with (first | (at_builtin; refine wpList_append_S w1 rfl (.tmp 15) (.tmp 18) 202 rfl 9 (.string ⟨#[]⟩) 1 16 Try.underlying202 (by kernel_rfl) rfl (by omega) (w.heap.size + 1) (.slice Av j cv) j _ G2.out (D.str (t.kids[j]).text) [.string (t.kids[j]).text] HD.out hszw1 rfl (by simp [Value.oneCell']) (by omega) (by omega) 9 rfl w1.heap.size rfl rfl ?_; intro g cap w3 G3 Bq3 hs3 hg3 hgl3))
      go_roundw
      case rel => exact ⟨j + 1, some ⟨g, 0, none⟩, cap, by omega, by go_num, rfl, Lib.hid (by rw [HT.out, List.map_append]; exact G3), Lib.hid (B2.out.trans Bq3)⟩
      case measure => simp [intOf]; omega
    · have hjl : j = t.kids.length := by omega
      have HT := Lib.hid (show (t.kids.map GNode.text).take j = t.kids.map GNode.text by rw [hjl, List.take_of_length_le (by simp)])
      rw [HT.out] at HG
      have RW := Lib.hid (R.out.below HB.out (Nat.lt_succ_self _))
      have BW := Lib.hid (E.out.trans (HB.out.mono (Nat.le_succ _)))
      have hR := fun i => RW.out.cell i
      have q0 := upRow RW.out
      have hl := hll.out
      obtain ⟨A9, c9, eV, hSL⟩ := HG.out.sl hszw
      cases eV
      subst hjl
      obtain ⟨b0, f0, ee0, hs0, z0, hm0⟩ := hSL.strAtW 0 (by simpa using (by omega : 0 < t.kids.length))
      subst ee0
      rw [← Ha.out (by simpa using (by omega : 0 < t.kids.length))] at z0
      obtain ⟨b1, f1, ee1, hs1, z1, hm1⟩ := hSL.strAtW 1 (by simpa using (by omega : 1 < t.kids.length))
      simp only [Option.some.injEq, Addr.mk.injEq, and_true] at ee1
      obtain ⟨rfl, rfl⟩ := ee1
      rw [← Hb.out (by simpa using (by omega : 1 < t.kids.length))] at z1
      have hi0 : (0 : Int) < (t.kids.length : Int) := by omega
      have hin0 : 0 < t.kids.length := by omega
      have hi1 : (1 : Int) < (t.kids.length : Int) := by omega
      have hin1 : 1 < t.kids.length := by omega
      have u0 := upCell (p := ⟨b0, f0 + 0, none⟩) hs0 z0
      have u1 := upCell (p := ⟨b0, f0 + 1, none⟩) hs1 z1
      simp only [Nat.add_zero] at u0 z0 u1 z1
      clear hl hSL hm0 hm1
      go_wp2_with fail
      refine wp_region_up wr (Below.refl _ _) (by kernel_rfl) (by kernel_rfl) ?_
      repeat (go_big_quiet_step (fail))
      refine wpQuiet_nil ?_
      rintro w9 ⟨x9, e9⟩
      have B9 := Lib.hid (show Below wr.heap.size wr w9 by rw [e9]; exact x9.h)
      have R9 := Lib.hid (RW.out.below B9.out RW.out.lt)
      have hc9 := fun i => R9.out.cell i
      clear e9 x9 q0
      go_wp2_with fail
      go_ret
      exact ⟨ret_str (by rw [hv.out]), BW.out.trans (B9.out.mono BW.out.size)⟩

set_option maxRecDepth 20000 in
theorem implWrite_9 (t : GNode) (A1 : Option Addr) (c1 : Nat) (w : World) (hb : t.bulk ≤ 1048576) (o : t.op = 9) (hl : t.kids.length = 3)
    (HE : ∀ x ∈ t.kids, ∀ (A2 : Option Addr) (c2 : Nat) (w2 : World), GNode.At w2 (Lt w2.heap.size) A2 c2 x → Calls Try.prog 168 #[.agg #[.int .i64 x.op, .int .i64 x.n, .string x.s, .string x.t, .slice A2 x.kids.length c2]] w2 fun e w' => e = .returned (.string x.text) ∧ Below w2.heap.size w2 w')
    (ht : GNode.At w (Lt w.heap.size) A1 c1 t) :
    Calls Try.prog 168 #[.agg #[.int .i64 t.op, .int .i64 t.n, .string t.s, .string t.t, .slice A1 t.kids.length c1]] w fun e w' => e = .returned (.string t.text) ∧ Below w.heap.size w w' := by
  obtain ⟨h0, h1, h2, h3, hk⟩ := id ht
  have hn := wf64 h1
  have hlen : t.kids.length ≤ 9223372036854775807 := by simpa using hk.len
  have hbe := t.bulk_eq
  have hlb := bulkL_len GNode.bulk t.kids
  have hl6 : t.kids.length ≤ 1048576 := by omega
  have hzs : t.s.size ≤ 1048576 := by omega
  have hzt : t.t.size ≤ 1048576 := by omega
  have hzl := t.lens_kids
  have hzl2 : lensB (t.kids.map GNode.text) ≤ 41943040 := by omega
  obtain ⟨w0, ew⟩ : ∃ w0, w0 = (w.alloc (.cells #[.int .i64 t.op, .int .i64 t.n, .string t.s, .string t.t, .slice A1 t.kids.length c1] 49)).alloc (.cells #[] 9) := ⟨_, rfl⟩
  have E := Lib.hid (show Below w.heap.size w w0 by rw [ew]; exact ((Below.refl _ _).alloc (Nat.le_refl _) _).alloc (by simp) _)
  have R := Lib.hid (show Row w0 w.heap.size 49 #[.int .i64 t.op, .int .i64 t.n, .string t.s, .string t.t, .slice A1 t.kids.length c1] by rw [ew]; exact (Row.new _ _ _).alloc _)
  have G0 := Lib.hid (show Gsh w0 (w.heap.size + 1) 9 1 (.slice (some ⟨w.heap.size + 1, 0, none⟩) 0 0) 0 [] from Gsh.made (by rw [ew]; exact Row.new' _ _ _ (by simp)) (Nat.le_refl _))
  have HSZ := Lib.hid (show w.heap.size + 1 ≤ w0.heap.size by rw [ew]; simp)
  have EQ := Lib.hid ew
  have K0 := Lib.hid (hk.below E.out (Nat.le_refl _))
  have HX := Lib.hid (fun (j : Nat) (hj : j < t.kids.length) => HE t.kids[j] (List.getElem_mem hj))
  have HZK := Lib.hid (fun (j : Nat) (hj : j < t.kids.length) => show (t.kids[j]).text.size ≤ 41943060 from by have := (t.kids[j]).text_size; have := bulkL_mem GNode.bulk t.kids _ (List.getElem_mem hj); omega)
  obtain ⟨a, ea⟩ : ∃ x, x = atB (t.kids.map GNode.text) 0 := ⟨_, rfl⟩
  have Ha := Lib.hid (show ∀ h : 0 < (t.kids.map GNode.text).length, a = (t.kids.map GNode.text)[0] from fun h => by rw [ea, atB_get h])
  have hza : a.size ≤ 41943040 := by rw [Ha.out (by simpa using (by omega : 0 < t.kids.length))]; exact Nat.le_trans (lensB_get _) hzl2
  obtain ⟨b, eb⟩ : ∃ x, x = atB (t.kids.map GNode.text) 1 := ⟨_, rfl⟩
  have Hb := Lib.hid (show ∀ h : 1 < (t.kids.map GNode.text).length, b = (t.kids.map GNode.text)[1] from fun h => by rw [eb, atB_get h])
  have hzb : b.size ≤ 41943040 := by rw [Hb.out (by simpa using (by omega : 1 < t.kids.length))]; exact Nat.le_trans (lensB_get _) hzl2
  obtain ⟨c, ec⟩ : ∃ x, x = atB (t.kids.map GNode.text) 2 := ⟨_, rfl⟩
  have Hc := Lib.hid (show ∀ h : 2 < (t.kids.map GNode.text).length, c = (t.kids.map GNode.text)[2] from fun h => by rw [ec, atB_get h])
  have hzc : c.size ≤ 41943040 := by rw [Hc.out (by simpa using (by omega : 2 < t.kids.length))]; exact Nat.le_trans (lensB_get _) hzl2
  have hv := Lib.hid (show t.text = ⟨#[40]⟩ ++ (⟨#[105, 102, 32]⟩ ++ a ++ ⟨#[32, 116, 104, 101, 110, 32]⟩ ++ b ++ ⟨#[32, 101, 108, 115, 101, 32]⟩ ++ c) ++ ⟨#[41]⟩ by rw [t.text_eq]; unfold nodeTextOf; rw [if_neg (by omega), if_neg (by omega), if_neg (by omega), if_neg (by omega), if_neg (by omega)]; unfold bodyOf; rw [if_neg (by omega), if_neg (by omega), if_neg (by omega), if_neg (by omega), if_neg (by omega), if_pos o]; rw [← ea, ← eb, ← ec])
  have p1 : (t.op == 1) = false := beq_eq_false_iff_ne.2 (by omega)
  have p19 : (t.op == 19) = false := beq_eq_false_iff_ne.2 (by omega)
  have p2 : (t.op == 2) = false := beq_eq_false_iff_ne.2 (by omega)
  have p18 : (t.op == 18) = false := beq_eq_false_iff_ne.2 (by omega)
  have p17 : (t.op == 17) = false := beq_eq_false_iff_ne.2 (by omega)
  have p8 : (t.op == 8) = false := beq_eq_false_iff_ne.2 (by omega)
  have p3 : (t.op == 3) = false := beq_eq_false_iff_ne.2 (by omega)
  have p4 : (t.op == 4) = false := beq_eq_false_iff_ne.2 (by omega)
  have p5 : (t.op == 5) = false := beq_eq_false_iff_ne.2 (by omega)
  have p6 : (t.op == 6) = false := beq_eq_false_iff_ne.2 (by omega)
  have p7 : (t.op == 7) = false := beq_eq_false_iff_ne.2 (by omega)
  have p9 : (t.op == 9) = true := beq_iff_eq.2 o
  have zz0 : ¬ 9223372036854775807 < 3 + a.size := by omega
  have zz1 : ¬ 9223372036854775807 < 3 + a.size + 6 := by omega
  have zz2 : ¬ 9223372036854775807 < 3 + a.size + 6 + b.size := by omega
  have zz3 : ¬ 9223372036854775807 < 3 + a.size + 6 + b.size + 6 := by omega
  have zz4 : ¬ 9223372036854775807 < 3 + a.size + 6 + b.size + 6 + c.size := by omega
  have zy : ¬ 9223372036854775807 < 1 + (3 + a.size + 6 + b.size + 6 + c.size) := by omega
  have zx : ¬ 9223372036854775807 < 1 + (3 + a.size + 6 + b.size + 6 + c.size) + 1 := by omega
  have hll := Lib.hid (show 3 ≤ t.kids.length by omega)
  clear ea eb ec
  clear o hl
  clear HE ht h0 h1 h2 h3 hk hbe hlb hzl ew hb
  go_enter Try.func168, Try.ntmps168
  go_wp2_with fail
  rw [← EQ.out]
  go_loopw [3, 11] (fun v i wr => ∃ (j : Nat) (Av : Option Addr) (cv : Nat), j ≤ t.kids.length ∧ i = .int .i64 j ∧ v = .slice Av j cv ∧ Hid (Gsh wr (w.heap.size + 1) 9 1 (.slice Av j cv) j (((t.kids.map GNode.text).take j).map D.str)) ∧ Hid (Below (w.heap.size + 1) w0 wr)) (fun _ i _ => t.kids.length - (intOf i).toNat)
  case atStart => exact ⟨0, _, _, by omega, by go_num, rfl, G0, Lib.hid (Below.refl _ _)⟩
  case round =>
    clear G0
    obtain ⟨j, Av, cv, hj, rfl, rfl, HG, HB⟩ := hrel
    have hszw : w.heap.size + 1 ≤ wr.heap.size := Nat.le_trans HSZ.out HB.out.size
    by_cases hlt : j < t.kids.length
    · obtain ⟨b, off, A2, c2, eA, hSb, g0, g1, g2, g3, g4, hat⟩ := GNode.elem (K0.out.keep (w' := wr) (S' := Lt w.heap.size) (fun q hq => ⟨hq, HB.out.block q (Nat.lt_succ_of_lt hq)⟩)) j hlt
      subst eA
      have E1 := Lib.hid (show Below wr.heap.size wr (wr.alloc (.cells #[.int .i64 (t.kids[j]).op, .int .i64 (t.kids[j]).n, .string (t.kids[j]).s, .string (t.kids[j]).t, .slice A2 (t.kids[j]).kids.length c2] 49)) from (Below.refl _ _).alloc (Nat.le_refl _) _)
      have HXJ := Lib.hid (HX.out j hlt A2 c2 (wr.alloc (.cells #[.int .i64 (t.kids[j]).op, .int .i64 (t.kids[j]).n, .string (t.kids[j]).s, .string (t.kids[j]).t, .slice A2 (t.kids[j]).kids.length c2] 49)) ((hat.below (Below.refl _ _) (by omega : w.heap.size ≤ wr.heap.size)).below E1.out E1.out.size))
      have G1 := Lib.hid (HG.out.below E1.out hszw)
      have B1 := Lib.hid (HB.out.trans (E1.out.mono hszw))
      have hzk := HZK.out j hlt
      have HT := Lib.hid (show (t.kids.map GNode.text).take (j + 1) = (t.kids.map GNode.text).take j ++ [(t.kids[j]).text] by rw [List.take_succ_eq_append_getElem (by simpa using hlt), List.getElem_map])
      have hns : (t.kids[j]).text.size ≤ maxLen := by unfold maxLen; omega
      clear hat
      go_wp2_with fail
      refine HXJ.out.mono ?_
      rintro e w1 ⟨rfl, hb1⟩
      have hszw1 := Nat.le_trans hszw (Nat.le_trans E1.out.size hb1.size)
      have G2 := Lib.hid (G1.out.below hb1 (Nat.le_trans hszw E1.out.size))
      have B2 := Lib.hid (B1.out.trans (hb1.mono (Nat.le_trans hszw E1.out.size)))
      have HD := Lib.hid (show (D.str (t.kids[j]).text).rd w1 (Lt (w.heap.size + 1)) [.string (t.kids[j]).text] from D.rd_str.2 ⟨rfl, hns⟩)
      clear hb1 hns
      go_wp2_with (first | (at_builtin; refine wpList_append_S w1 rfl (.tmp 15) (.tmp 18) 202 rfl 9 (.string ⟨#[]⟩) 1 16 Try.underlying202 (by kernel_rfl) rfl (by omega) (w.heap.size + 1) (.slice Av j cv) j _ G2.out (D.str (t.kids[j]).text) [.string (t.kids[j]).text] HD.out hszw1 rfl (by simp [Value.oneCell']) (by omega) (by omega) 9 rfl w1.heap.size rfl rfl ?_; intro g cap w3 G3 Bq3 hs3 hg3 hgl3))
      go_roundw
      case rel => exact ⟨j + 1, some ⟨g, 0, none⟩, cap, by omega, by go_num, rfl, Lib.hid (by rw [HT.out, List.map_append]; exact G3), Lib.hid (B2.out.trans Bq3)⟩
      case measure => simp [intOf]; omega
    · have hjl : j = t.kids.length := by omega
      have HT := Lib.hid (show (t.kids.map GNode.text).take j = t.kids.map GNode.text by rw [hjl, List.take_of_length_le (by simp)])
      rw [HT.out] at HG
      have RW := Lib.hid (R.out.below HB.out (Nat.lt_succ_self _))
      have BW := Lib.hid (E.out.trans (HB.out.mono (Nat.le_succ _)))
      have hR := fun i => RW.out.cell i
      have q0 := upRow RW.out
      have hl := hll.out
      obtain ⟨A9, c9, eV, hSL⟩ := HG.out.sl hszw
      cases eV
      subst hjl
      obtain ⟨b0, f0, ee0, hs0, z0, hm0⟩ := hSL.strAtW 0 (by simpa using (by omega : 0 < t.kids.length))
      subst ee0
      rw [← Ha.out (by simpa using (by omega : 0 < t.kids.length))] at z0
      obtain ⟨b1, f1, ee1, hs1, z1, hm1⟩ := hSL.strAtW 1 (by simpa using (by omega : 1 < t.kids.length))
      simp only [Option.some.injEq, Addr.mk.injEq, and_true] at ee1
      obtain ⟨rfl, rfl⟩ := ee1
      rw [← Hb.out (by simpa using (by omega : 1 < t.kids.length))] at z1
      obtain ⟨b2, f2, ee2, hs2, z2, hm2⟩ := hSL.strAtW 2 (by simpa using (by omega : 2 < t.kids.length))
      simp only [Option.some.injEq, Addr.mk.injEq, and_true] at ee2
      obtain ⟨rfl, rfl⟩ := ee2
      rw [← Hc.out (by simpa using (by omega : 2 < t.kids.length))] at z2
      have hi0 : (0 : Int) < (t.kids.length : Int) := by omega
      have hin0 : 0 < t.kids.length := by omega
      have hi1 : (1 : Int) < (t.kids.length : Int) := by omega
      have hin1 : 1 < t.kids.length := by omega
      have hi2 : (2 : Int) < (t.kids.length : Int) := by omega
      have hin2 : 2 < t.kids.length := by omega
      have u0 := upCell (p := ⟨b0, f0 + 0, none⟩) hs0 z0
      have u1 := upCell (p := ⟨b0, f0 + 1, none⟩) hs1 z1
      have u2 := upCell (p := ⟨b0, f0 + 2, none⟩) hs2 z2
      simp only [Nat.add_zero] at u0 z0 u1 z1 u2 z2
      clear hl hSL hm0 hm1 hm2
      go_wp2_with fail
      refine wp_region_up wr (Below.refl _ _) (by kernel_rfl) (by kernel_rfl) ?_
      repeat (go_big_quiet_step (fail))
      refine wpQuiet_nil ?_
      rintro w9 ⟨x9, e9⟩
      have B9 := Lib.hid (show Below wr.heap.size wr w9 by rw [e9]; exact x9.h)
      have R9 := Lib.hid (RW.out.below B9.out RW.out.lt)
      have hc9 := fun i => R9.out.cell i
      clear e9 x9 q0
      go_wp2_with fail
      go_ret
      exact ⟨ret_str (by rw [hv.out]), BW.out.trans (B9.out.mono BW.out.size)⟩

set_option maxRecDepth 20000 in
theorem implWrite_16 (t : GNode) (A1 : Option Addr) (c1 : Nat) (w : World) (hb : t.bulk ≤ 1048576) (o : t.op = 16) (hl : t.kids.length = 1)
    (HE : ∀ x ∈ t.kids, ∀ (A2 : Option Addr) (c2 : Nat) (w2 : World), GNode.At w2 (Lt w2.heap.size) A2 c2 x → Calls Try.prog 168 #[.agg #[.int .i64 x.op, .int .i64 x.n, .string x.s, .string x.t, .slice A2 x.kids.length c2]] w2 fun e w' => e = .returned (.string x.text) ∧ Below w2.heap.size w2 w')
    (ht : GNode.At w (Lt w.heap.size) A1 c1 t) :
    Calls Try.prog 168 #[.agg #[.int .i64 t.op, .int .i64 t.n, .string t.s, .string t.t, .slice A1 t.kids.length c1]] w fun e w' => e = .returned (.string t.text) ∧ Below w.heap.size w w' := by
  obtain ⟨h0, h1, h2, h3, hk⟩ := id ht
  have hn := wf64 h1
  have hlen : t.kids.length ≤ 9223372036854775807 := by simpa using hk.len
  have hbe := t.bulk_eq
  have hlb := bulkL_len GNode.bulk t.kids
  have hl6 : t.kids.length ≤ 1048576 := by omega
  have hzs : t.s.size ≤ 1048576 := by omega
  have hzt : t.t.size ≤ 1048576 := by omega
  have hzl := t.lens_kids
  have hzl2 : lensB (t.kids.map GNode.text) ≤ 41943040 := by omega
  obtain ⟨w0, ew⟩ : ∃ w0, w0 = (w.alloc (.cells #[.int .i64 t.op, .int .i64 t.n, .string t.s, .string t.t, .slice A1 t.kids.length c1] 49)).alloc (.cells #[] 9) := ⟨_, rfl⟩
  have E := Lib.hid (show Below w.heap.size w w0 by rw [ew]; exact ((Below.refl _ _).alloc (Nat.le_refl _) _).alloc (by simp) _)
  have R := Lib.hid (show Row w0 w.heap.size 49 #[.int .i64 t.op, .int .i64 t.n, .string t.s, .string t.t, .slice A1 t.kids.length c1] by rw [ew]; exact (Row.new _ _ _).alloc _)
  have G0 := Lib.hid (show Gsh w0 (w.heap.size + 1) 9 1 (.slice (some ⟨w.heap.size + 1, 0, none⟩) 0 0) 0 [] from Gsh.made (by rw [ew]; exact Row.new' _ _ _ (by simp)) (Nat.le_refl _))
  have HSZ := Lib.hid (show w.heap.size + 1 ≤ w0.heap.size by rw [ew]; simp)
  have EQ := Lib.hid ew
  have K0 := Lib.hid (hk.below E.out (Nat.le_refl _))
  have HX := Lib.hid (fun (j : Nat) (hj : j < t.kids.length) => HE t.kids[j] (List.getElem_mem hj))
  have HZK := Lib.hid (fun (j : Nat) (hj : j < t.kids.length) => show (t.kids[j]).text.size ≤ 41943060 from by have := (t.kids[j]).text_size; have := bulkL_mem GNode.bulk t.kids _ (List.getElem_mem hj); omega)
  obtain ⟨a, ea⟩ : ∃ x, x = atB (t.kids.map GNode.text) 0 := ⟨_, rfl⟩
  have Ha := Lib.hid (show ∀ h : 0 < (t.kids.map GNode.text).length, a = (t.kids.map GNode.text)[0] from fun h => by rw [ea, atB_get h])
  have hza : a.size ≤ 41943040 := by rw [Ha.out (by simpa using (by omega : 0 < t.kids.length))]; exact Nat.le_trans (lensB_get _) hzl2
  have hv := Lib.hid (show t.text = ⟨#[40]⟩ ++ (⟨#[112, 117, 116, 32]⟩ ++ a) ++ ⟨#[41]⟩ by rw [t.text_eq]; unfold nodeTextOf; rw [if_neg (by omega), if_neg (by omega), if_neg (by omega), if_neg (by omega), if_neg (by omega)]; unfold bodyOf; rw [if_neg (by omega), if_neg (by omega), if_neg (by omega), if_neg (by omega), if_neg (by omega), if_neg (by omega), if_pos o]; rw [← ea])
  have p1 : (t.op == 1) = false := beq_eq_false_iff_ne.2 (by omega)
  have p19 : (t.op == 19) = false := beq_eq_false_iff_ne.2 (by omega)
  have p2 : (t.op == 2) = false := beq_eq_false_iff_ne.2 (by omega)
  have p18 : (t.op == 18) = false := beq_eq_false_iff_ne.2 (by omega)
  have p17 : (t.op == 17) = false := beq_eq_false_iff_ne.2 (by omega)
  have p8 : (t.op == 8) = false := beq_eq_false_iff_ne.2 (by omega)
  have p3 : (t.op == 3) = false := beq_eq_false_iff_ne.2 (by omega)
  have p4 : (t.op == 4) = false := beq_eq_false_iff_ne.2 (by omega)
  have p5 : (t.op == 5) = false := beq_eq_false_iff_ne.2 (by omega)
  have p6 : (t.op == 6) = false := beq_eq_false_iff_ne.2 (by omega)
  have p7 : (t.op == 7) = false := beq_eq_false_iff_ne.2 (by omega)
  have p9 : (t.op == 9) = false := beq_eq_false_iff_ne.2 (by omega)
  have p16 : (t.op == 16) = true := beq_iff_eq.2 o
  have zz0 : ¬ 9223372036854775807 < 4 + a.size := by omega
  have zy : ¬ 9223372036854775807 < 1 + (4 + a.size) := by omega
  have zx : ¬ 9223372036854775807 < 1 + (4 + a.size) + 1 := by omega
  have hll := Lib.hid (show 1 ≤ t.kids.length by omega)
  clear ea
  clear o hl
  clear HE ht h0 h1 h2 h3 hk hbe hlb hzl ew hb
  go_enter Try.func168, Try.ntmps168
  go_wp2_with fail
  rw [← EQ.out]
  go_loopw [3, 11] (fun v i wr => ∃ (j : Nat) (Av : Option Addr) (cv : Nat), j ≤ t.kids.length ∧ i = .int .i64 j ∧ v = .slice Av j cv ∧ Hid (Gsh wr (w.heap.size + 1) 9 1 (.slice Av j cv) j (((t.kids.map GNode.text).take j).map D.str)) ∧ Hid (Below (w.heap.size + 1) w0 wr)) (fun _ i _ => t.kids.length - (intOf i).toNat)
  case atStart => exact ⟨0, _, _, by omega, by go_num, rfl, G0, Lib.hid (Below.refl _ _)⟩
  case round =>
    clear G0
    obtain ⟨j, Av, cv, hj, rfl, rfl, HG, HB⟩ := hrel
    have hszw : w.heap.size + 1 ≤ wr.heap.size := Nat.le_trans HSZ.out HB.out.size
    by_cases hlt : j < t.kids.length
    · obtain ⟨b, off, A2, c2, eA, hSb, g0, g1, g2, g3, g4, hat⟩ := GNode.elem (K0.out.keep (w' := wr) (S' := Lt w.heap.size) (fun q hq => ⟨hq, HB.out.block q (Nat.lt_succ_of_lt hq)⟩)) j hlt
      subst eA
      have E1 := Lib.hid (show Below wr.heap.size wr (wr.alloc (.cells #[.int .i64 (t.kids[j]).op, .int .i64 (t.kids[j]).n, .string (t.kids[j]).s, .string (t.kids[j]).t, .slice A2 (t.kids[j]).kids.length c2] 49)) from (Below.refl _ _).alloc (Nat.le_refl _) _)
      have HXJ := Lib.hid (HX.out j hlt A2 c2 (wr.alloc (.cells #[.int .i64 (t.kids[j]).op, .int .i64 (t.kids[j]).n, .string (t.kids[j]).s, .string (t.kids[j]).t, .slice A2 (t.kids[j]).kids.length c2] 49)) ((hat.below (Below.refl _ _) (by omega : w.heap.size ≤ wr.heap.size)).below E1.out E1.out.size))
      have G1 := Lib.hid (HG.out.below E1.out hszw)
      have B1 := Lib.hid (HB.out.trans (E1.out.mono hszw))
      have hzk := HZK.out j hlt
      have HT := Lib.hid (show (t.kids.map GNode.text).take (j + 1) = (t.kids.map GNode.text).take j ++ [(t.kids[j]).text] by rw [List.take_succ_eq_append_getElem (by simpa using hlt), List.getElem_map])
      have hns : (t.kids[j]).text.size ≤ maxLen := by unfold maxLen; omega
      clear hat
      go_wp2_with fail
      refine HXJ.out.mono ?_
      rintro e w1 ⟨rfl, hb1⟩
      have hszw1 := Nat.le_trans hszw (Nat.le_trans E1.out.size hb1.size)
      have G2 := Lib.hid (G1.out.below hb1 (Nat.le_trans hszw E1.out.size))
      have B2 := Lib.hid (B1.out.trans (hb1.mono (Nat.le_trans hszw E1.out.size)))
      have HD := Lib.hid (show (D.str (t.kids[j]).text).rd w1 (Lt (w.heap.size + 1)) [.string (t.kids[j]).text] from D.rd_str.2 ⟨rfl, hns⟩)
      clear hb1 hns
      go_wp2_with (first | (at_builtin; refine wpList_append_S w1 rfl (.tmp 15) (.tmp 18) 202 rfl 9 (.string ⟨#[]⟩) 1 16 Try.underlying202 (by kernel_rfl) rfl (by omega) (w.heap.size + 1) (.slice Av j cv) j _ G2.out (D.str (t.kids[j]).text) [.string (t.kids[j]).text] HD.out hszw1 rfl (by simp [Value.oneCell']) (by omega) (by omega) 9 rfl w1.heap.size rfl rfl ?_; intro g cap w3 G3 Bq3 hs3 hg3 hgl3))
      go_roundw
      case rel => exact ⟨j + 1, some ⟨g, 0, none⟩, cap, by omega, by go_num, rfl, Lib.hid (by rw [HT.out, List.map_append]; exact G3), Lib.hid (B2.out.trans Bq3)⟩
      case measure => simp [intOf]; omega
    · have hjl : j = t.kids.length := by omega
      have HT := Lib.hid (show (t.kids.map GNode.text).take j = t.kids.map GNode.text by rw [hjl, List.take_of_length_le (by simp)])
      rw [HT.out] at HG
      have RW := Lib.hid (R.out.below HB.out (Nat.lt_succ_self _))
      have BW := Lib.hid (E.out.trans (HB.out.mono (Nat.le_succ _)))
      have hR := fun i => RW.out.cell i
      have q0 := upRow RW.out
      have hl := hll.out
      obtain ⟨A9, c9, eV, hSL⟩ := HG.out.sl hszw
      cases eV
      subst hjl
      obtain ⟨b0, f0, ee0, hs0, z0, hm0⟩ := hSL.strAtW 0 (by simpa using (by omega : 0 < t.kids.length))
      subst ee0
      rw [← Ha.out (by simpa using (by omega : 0 < t.kids.length))] at z0
      have hi0 : (0 : Int) < (t.kids.length : Int) := by omega
      have hin0 : 0 < t.kids.length := by omega
      have u0 := upCell (p := ⟨b0, f0 + 0, none⟩) hs0 z0
      simp only [Nat.add_zero] at u0 z0
      clear hl hSL hm0
      go_wp2_with fail
      go_ret
      exact ⟨ret_str (by rw [hv.out]), BW.out⟩

end Go.Proofs.Ytgbcdfeflgnogaa

/- The program's write (4). Conditions: what the program holds is at most 1048576. -/
namespace Go.Proofs.Ytgbcdfeflgnogaa
open Go.RowKit Go.BigFrame
set_option linter.unusedVariables false
set_option linter.unusedSimpArgs false
set_option maxHeartbeats 4000000

set_option maxRecDepth 20000 in
theorem implWrite_r (t : GNode) (A1 : Option Addr) (c1 : Nat) (w : World) (hb : t.bulk ≤ 1048576) (o : 10 ≤ t.op ∧ t.op ≤ 14) (hl : t.kids.length = 2)
    (HE : ∀ x ∈ t.kids, ∀ (A2 : Option Addr) (c2 : Nat) (w2 : World), GNode.At w2 (Lt w2.heap.size) A2 c2 x → Calls Try.prog 168 #[.agg #[.int .i64 x.op, .int .i64 x.n, .string x.s, .string x.t, .slice A2 x.kids.length c2]] w2 fun e w' => e = .returned (.string x.text) ∧ Below w2.heap.size w2 w')
    (ht : GNode.At w (Lt w.heap.size) A1 c1 t) :
    Calls Try.prog 168 #[.agg #[.int .i64 t.op, .int .i64 t.n, .string t.s, .string t.t, .slice A1 t.kids.length c1]] w fun e w' => e = .returned (.string t.text) ∧ Below w.heap.size w w' := by
  obtain ⟨h0, h1, h2, h3, hk⟩ := id ht
  have hn := wf64 h1
  have hlen : t.kids.length ≤ 9223372036854775807 := by simpa using hk.len
  have hbe := t.bulk_eq
  have hlb := bulkL_len GNode.bulk t.kids
  have hl6 : t.kids.length ≤ 1048576 := by omega
  have hzs : t.s.size ≤ 1048576 := by omega
  have hzt : t.t.size ≤ 1048576 := by omega
  have hzl := t.lens_kids
  have hzl2 : lensB (t.kids.map GNode.text) ≤ 41943040 := by omega
  obtain ⟨w0, ew⟩ : ∃ w0, w0 = (w.alloc (.cells #[.int .i64 t.op, .int .i64 t.n, .string t.s, .string t.t, .slice A1 t.kids.length c1] 49)).alloc (.cells #[] 9) := ⟨_, rfl⟩
  have E := Lib.hid (show Below w.heap.size w w0 by rw [ew]; exact ((Below.refl _ _).alloc (Nat.le_refl _) _).alloc (by simp) _)
  have R := Lib.hid (show Row w0 w.heap.size 49 #[.int .i64 t.op, .int .i64 t.n, .string t.s, .string t.t, .slice A1 t.kids.length c1] by rw [ew]; exact (Row.new _ _ _).alloc _)
  have G0 := Lib.hid (show Gsh w0 (w.heap.size + 1) 9 1 (.slice (some ⟨w.heap.size + 1, 0, none⟩) 0 0) 0 [] from Gsh.made (by rw [ew]; exact Row.new' _ _ _ (by simp)) (Nat.le_refl _))
  have HSZ := Lib.hid (show w.heap.size + 1 ≤ w0.heap.size by rw [ew]; simp)
  have EQ := Lib.hid ew
  have K0 := Lib.hid (hk.below E.out (Nat.le_refl _))
  have HX := Lib.hid (fun (j : Nat) (hj : j < t.kids.length) => HE t.kids[j] (List.getElem_mem hj))
  have HZK := Lib.hid (fun (j : Nat) (hj : j < t.kids.length) => show (t.kids[j]).text.size ≤ 41943060 from by have := (t.kids[j]).text_size; have := bulkL_mem GNode.bulk t.kids _ (List.getElem_mem hj); omega)
  obtain ⟨a, ea⟩ : ∃ x, x = atB (t.kids.map GNode.text) 0 := ⟨_, rfl⟩
  have Ha := Lib.hid (show ∀ h : 0 < (t.kids.map GNode.text).length, a = (t.kids.map GNode.text)[0] from fun h => by rw [ea, atB_get h])
  have hza : a.size ≤ 41943040 := by rw [Ha.out (by simpa using (by omega : 0 < t.kids.length))]; exact Nat.le_trans (lensB_get _) hzl2
  obtain ⟨b, eb⟩ : ∃ x, x = atB (t.kids.map GNode.text) 1 := ⟨_, rfl⟩
  have Hb := Lib.hid (show ∀ h : 1 < (t.kids.map GNode.text).length, b = (t.kids.map GNode.text)[1] from fun h => by rw [eb, atB_get h])
  have hzb : b.size ≤ 41943040 := by rw [Hb.out (by simpa using (by omega : 1 < t.kids.length))]; exact Nat.le_trans (lensB_get _) hzl2
  have hv := Lib.hid (show t.text = ⟨#[40]⟩ ++ (a ++ ⟨#[32]⟩ ++ signT t.op ++ ⟨#[32]⟩ ++ b) ++ ⟨#[41]⟩ by rw [t.text_eq]; unfold nodeTextOf; rw [if_neg (by omega), if_neg (by omega), if_neg (by omega), if_neg (by omega), if_neg (by omega)]; unfold bodyOf; rw [if_neg (by omega), if_neg (by omega), if_neg (by omega), if_neg (by omega), if_neg (by omega), if_neg (by omega), if_neg (by omega)]; rw [← ea, ← eb])
  have hsg := signT_size t.op
  have HSG := Lib.hid (fun (wx : World) => implSign t.op wx o)
  have p1 : (t.op == 1) = false := beq_eq_false_iff_ne.2 (by omega)
  have p19 : (t.op == 19) = false := beq_eq_false_iff_ne.2 (by omega)
  have p2 : (t.op == 2) = false := beq_eq_false_iff_ne.2 (by omega)
  have p18 : (t.op == 18) = false := beq_eq_false_iff_ne.2 (by omega)
  have p17 : (t.op == 17) = false := beq_eq_false_iff_ne.2 (by omega)
  have p8 : (t.op == 8) = false := beq_eq_false_iff_ne.2 (by omega)
  have p3 : (t.op == 3) = false := beq_eq_false_iff_ne.2 (by omega)
  have p4 : (t.op == 4) = false := beq_eq_false_iff_ne.2 (by omega)
  have p5 : (t.op == 5) = false := beq_eq_false_iff_ne.2 (by omega)
  have p6 : (t.op == 6) = false := beq_eq_false_iff_ne.2 (by omega)
  have p7 : (t.op == 7) = false := beq_eq_false_iff_ne.2 (by omega)
  have p9 : (t.op == 9) = false := beq_eq_false_iff_ne.2 (by omega)
  have p16 : (t.op == 16) = false := beq_eq_false_iff_ne.2 (by omega)
  have p15 : (t.op == 15) = false := beq_eq_false_iff_ne.2 (by omega)
  have p20 : (t.op == 20) = false := beq_eq_false_iff_ne.2 (by omega)
  have zz0 : ¬ 9223372036854775807 < a.size + 1 := by omega
  have zz1 : ¬ 9223372036854775807 < a.size + 1 + (signT t.op).size := by omega
  have zz2 : ¬ 9223372036854775807 < a.size + 1 + (signT t.op).size + 1 := by omega
  have zz3 : ¬ 9223372036854775807 < a.size + 1 + (signT t.op).size + 1 + b.size := by omega
  have zy : ¬ 9223372036854775807 < 1 + (a.size + 1 + (signT t.op).size + 1 + b.size) := by omega
  have zx : ¬ 9223372036854775807 < 1 + (a.size + 1 + (signT t.op).size + 1 + b.size) + 1 := by omega
  have hll := Lib.hid (show 2 ≤ t.kids.length by omega)
  clear ea eb
  clear o hl
  clear HE ht h0 h1 h2 h3 hk hbe hlb hzl ew hb
  go_enter Try.func168, Try.ntmps168
  go_wp2_with fail
  rw [← EQ.out]
  go_loopw [3, 11] (fun v i wr => ∃ (j : Nat) (Av : Option Addr) (cv : Nat), j ≤ t.kids.length ∧ i = .int .i64 j ∧ v = .slice Av j cv ∧ Hid (Gsh wr (w.heap.size + 1) 9 1 (.slice Av j cv) j (((t.kids.map GNode.text).take j).map D.str)) ∧ Hid (Below (w.heap.size + 1) w0 wr)) (fun _ i _ => t.kids.length - (intOf i).toNat)
  case atStart => exact ⟨0, _, _, by omega, by go_num, rfl, G0, Lib.hid (Below.refl _ _)⟩
  case round =>
    clear G0
    obtain ⟨j, Av, cv, hj, rfl, rfl, HG, HB⟩ := hrel
    have hszw : w.heap.size + 1 ≤ wr.heap.size := Nat.le_trans HSZ.out HB.out.size
    by_cases hlt : j < t.kids.length
    · obtain ⟨b, off, A2, c2, eA, hSb, g0, g1, g2, g3, g4, hat⟩ := GNode.elem (K0.out.keep (w' := wr) (S' := Lt w.heap.size) (fun q hq => ⟨hq, HB.out.block q (Nat.lt_succ_of_lt hq)⟩)) j hlt
      subst eA
      have E1 := Lib.hid (show Below wr.heap.size wr (wr.alloc (.cells #[.int .i64 (t.kids[j]).op, .int .i64 (t.kids[j]).n, .string (t.kids[j]).s, .string (t.kids[j]).t, .slice A2 (t.kids[j]).kids.length c2] 49)) from (Below.refl _ _).alloc (Nat.le_refl _) _)
      have HXJ := Lib.hid (HX.out j hlt A2 c2 (wr.alloc (.cells #[.int .i64 (t.kids[j]).op, .int .i64 (t.kids[j]).n, .string (t.kids[j]).s, .string (t.kids[j]).t, .slice A2 (t.kids[j]).kids.length c2] 49)) ((hat.below (Below.refl _ _) (by omega : w.heap.size ≤ wr.heap.size)).below E1.out E1.out.size))
      have G1 := Lib.hid (HG.out.below E1.out hszw)
      have B1 := Lib.hid (HB.out.trans (E1.out.mono hszw))
      have hzk := HZK.out j hlt
      have HT := Lib.hid (show (t.kids.map GNode.text).take (j + 1) = (t.kids.map GNode.text).take j ++ [(t.kids[j]).text] by rw [List.take_succ_eq_append_getElem (by simpa using hlt), List.getElem_map])
      have hns : (t.kids[j]).text.size ≤ maxLen := by unfold maxLen; omega
      clear hat
      go_wp2_with fail
      refine HXJ.out.mono ?_
      rintro e w1 ⟨rfl, hb1⟩
      have hszw1 := Nat.le_trans hszw (Nat.le_trans E1.out.size hb1.size)
      have G2 := Lib.hid (G1.out.below hb1 (Nat.le_trans hszw E1.out.size))
      have B2 := Lib.hid (B1.out.trans (hb1.mono (Nat.le_trans hszw E1.out.size)))
      have HD := Lib.hid (show (D.str (t.kids[j]).text).rd w1 (Lt (w.heap.size + 1)) [.string (t.kids[j]).text] from D.rd_str.2 ⟨rfl, hns⟩)
      clear hb1 hns
      go_wp2_with (first | (at_builtin; refine wpList_append_S w1 rfl (.tmp 15) (.tmp 18) 202 rfl 9 (.string ⟨#[]⟩) 1 16 Try.underlying202 (by kernel_rfl) rfl (by omega) (w.heap.size + 1) (.slice Av j cv) j _ G2.out (D.str (t.kids[j]).text) [.string (t.kids[j]).text] HD.out hszw1 rfl (by simp [Value.oneCell']) (by omega) (by omega) 9 rfl w1.heap.size rfl rfl ?_; intro g cap w3 G3 Bq3 hs3 hg3 hgl3))
      go_roundw
      case rel => exact ⟨j + 1, some ⟨g, 0, none⟩, cap, by omega, by go_num, rfl, Lib.hid (by rw [HT.out, List.map_append]; exact G3), Lib.hid (B2.out.trans Bq3)⟩
      case measure => simp [intOf]; omega
    · have hjl : j = t.kids.length := by omega
      have HT := Lib.hid (show (t.kids.map GNode.text).take j = t.kids.map GNode.text by rw [hjl, List.take_of_length_le (by simp)])
      rw [HT.out] at HG
      have RW := Lib.hid (R.out.below HB.out (Nat.lt_succ_self _))
      have BW := Lib.hid (E.out.trans (HB.out.mono (Nat.le_succ _)))
      have hR := fun i => RW.out.cell i
      have q0 := upRow RW.out
      have hl := hll.out
      obtain ⟨A9, c9, eV, hSL⟩ := HG.out.sl hszw
      cases eV
      subst hjl
      obtain ⟨b0, f0, ee0, hs0, z0, hm0⟩ := hSL.strAtW 0 (by simpa using (by omega : 0 < t.kids.length))
      subst ee0
      rw [← Ha.out (by simpa using (by omega : 0 < t.kids.length))] at z0
      obtain ⟨b1, f1, ee1, hs1, z1, hm1⟩ := hSL.strAtW 1 (by simpa using (by omega : 1 < t.kids.length))
      simp only [Option.some.injEq, Addr.mk.injEq, and_true] at ee1
      obtain ⟨rfl, rfl⟩ := ee1
      rw [← Hb.out (by simpa using (by omega : 1 < t.kids.length))] at z1
      have hi0 : (0 : Int) < (t.kids.length : Int) := by omega
      have hin0 : 0 < t.kids.length := by omega
      have hi1 : (1 : Int) < (t.kids.length : Int) := by omega
      have hin1 : 1 < t.kids.length := by omega
      have u0 := upCell (p := ⟨b0, f0 + 0, none⟩) hs0 z0
      have u1 := upCell (p := ⟨b0, f0 + 1, none⟩) hs1 z1
      simp only [Nat.add_zero] at u0 z0 u1 z1
      clear hl hSL hm0 hm1
      go_wp2_with fail
      refine wp_region_up wr (Below.refl _ _) (by kernel_rfl) (by kernel_rfl) ?_
      repeat (go_big_quiet_step (first | (go_at_call 236; exact upCall (HSG.out _))))
      refine wpQuiet_nil ?_
      rintro w9 ⟨x9, e9⟩
      have B9 := Lib.hid (show Below wr.heap.size wr w9 by rw [e9]; exact x9.h)
      have R9 := Lib.hid (RW.out.below B9.out RW.out.lt)
      have hc9 := fun i => R9.out.cell i
      clear e9 x9 q0
      go_wp2_with fail
      go_ret
      exact ⟨ret_str (by rw [hv.out]), BW.out.trans (B9.out.mono BW.out.size)⟩

set_option maxRecDepth 20000 in
theorem implWrite_4 (t : GNode) (A1 : Option Addr) (c1 : Nat) (w : World) (hb : t.bulk ≤ 1048576) (o : t.op = 4) (hl : t.kids.length = 2)
    (HE : ∀ x ∈ t.kids, ∀ (A2 : Option Addr) (c2 : Nat) (w2 : World), GNode.At w2 (Lt w2.heap.size) A2 c2 x → Calls Try.prog 168 #[.agg #[.int .i64 x.op, .int .i64 x.n, .string x.s, .string x.t, .slice A2 x.kids.length c2]] w2 fun e w' => e = .returned (.string x.text) ∧ Below w2.heap.size w2 w')
    (ht : GNode.At w (Lt w.heap.size) A1 c1 t) :
    Calls Try.prog 168 #[.agg #[.int .i64 t.op, .int .i64 t.n, .string t.s, .string t.t, .slice A1 t.kids.length c1]] w fun e w' => e = .returned (.string t.text) ∧ Below w.heap.size w w' := by
  obtain ⟨h0, h1, h2, h3, hk⟩ := id ht
  have hn := wf64 h1
  have hlen : t.kids.length ≤ 9223372036854775807 := by simpa using hk.len
  have hbe := t.bulk_eq
  have hlb := bulkL_len GNode.bulk t.kids
  have hl6 : t.kids.length ≤ 1048576 := by omega
  have hzs : t.s.size ≤ 1048576 := by omega
  have hzt : t.t.size ≤ 1048576 := by omega
  have hzl := t.lens_kids
  have hzl2 : lensB (t.kids.map GNode.text) ≤ 41943040 := by omega
  obtain ⟨w0, ew⟩ : ∃ w0, w0 = (w.alloc (.cells #[.int .i64 t.op, .int .i64 t.n, .string t.s, .string t.t, .slice A1 t.kids.length c1] 49)).alloc (.cells #[] 9) := ⟨_, rfl⟩
  have E := Lib.hid (show Below w.heap.size w w0 by rw [ew]; exact ((Below.refl _ _).alloc (Nat.le_refl _) _).alloc (by simp) _)
  have R := Lib.hid (show Row w0 w.heap.size 49 #[.int .i64 t.op, .int .i64 t.n, .string t.s, .string t.t, .slice A1 t.kids.length c1] by rw [ew]; exact (Row.new _ _ _).alloc _)
  have G0 := Lib.hid (show Gsh w0 (w.heap.size + 1) 9 1 (.slice (some ⟨w.heap.size + 1, 0, none⟩) 0 0) 0 [] from Gsh.made (by rw [ew]; exact Row.new' _ _ _ (by simp)) (Nat.le_refl _))
  have HSZ := Lib.hid (show w.heap.size + 1 ≤ w0.heap.size by rw [ew]; simp)
  have EQ := Lib.hid ew
  have K0 := Lib.hid (hk.below E.out (Nat.le_refl _))
  have HX := Lib.hid (fun (j : Nat) (hj : j < t.kids.length) => HE t.kids[j] (List.getElem_mem hj))
  have HZK := Lib.hid (fun (j : Nat) (hj : j < t.kids.length) => show (t.kids[j]).text.size ≤ 41943060 from by have := (t.kids[j]).text_size; have := bulkL_mem GNode.bulk t.kids _ (List.getElem_mem hj); omega)
  obtain ⟨a, ea⟩ : ∃ x, x = atB (t.kids.map GNode.text) 0 := ⟨_, rfl⟩
  have Ha := Lib.hid (show ∀ h : 0 < (t.kids.map GNode.text).length, a = (t.kids.map GNode.text)[0] from fun h => by rw [ea, atB_get h])
  have hza : a.size ≤ 41943040 := by rw [Ha.out (by simpa using (by omega : 0 < t.kids.length))]; exact Nat.le_trans (lensB_get _) hzl2
  obtain ⟨b, eb⟩ : ∃ x, x = atB (t.kids.map GNode.text) 1 := ⟨_, rfl⟩
  have Hb := Lib.hid (show ∀ h : 1 < (t.kids.map GNode.text).length, b = (t.kids.map GNode.text)[1] from fun h => by rw [eb, atB_get h])
  have hzb : b.size ≤ 41943040 := by rw [Hb.out (by simpa using (by omega : 1 < t.kids.length))]; exact Nat.le_trans (lensB_get _) hzl2
  obtain ⟨x, hx⟩ : ∃ x, x = t.kids[0]'(by omega) := ⟨_, rfl⟩
  have hbr : bareL t.kids = (x.op == 15 && x.kids.length == 0) := by
    obtain ⟨y, r, hyr⟩ := List.exists_cons_of_length_pos (l := t.kids) (by omega)
    have : x = y := by rw [hx]; simp [hyr]
    rw [hyr, this]; rfl
  have hv := Lib.hid (show t.text = ⟨#[40]⟩ ++ ((if (x.op == 15 && x.kids.length == 0) = true then ⟨#[40]⟩ ++ a ++ ⟨#[41]⟩ else a) ++ ⟨#[32]⟩ ++ b) ++ ⟨#[41]⟩ by rw [t.text_eq]; unfold nodeTextOf; rw [if_neg (by omega), if_neg (by omega), if_neg (by omega), if_neg (by omega), if_neg (by omega)]; unfold bodyOf; rw [if_neg (by omega), if_pos o]; rw [hbr, ← ea, ← eb])
  have p1 : (t.op == 1) = false := beq_eq_false_iff_ne.2 (by omega)
  have p19 : (t.op == 19) = false := beq_eq_false_iff_ne.2 (by omega)
  have p2 : (t.op == 2) = false := beq_eq_false_iff_ne.2 (by omega)
  have p18 : (t.op == 18) = false := beq_eq_false_iff_ne.2 (by omega)
  have p17 : (t.op == 17) = false := beq_eq_false_iff_ne.2 (by omega)
  have p8 : (t.op == 8) = false := beq_eq_false_iff_ne.2 (by omega)
  have p3 : (t.op == 3) = false := beq_eq_false_iff_ne.2 (by omega)
  have p4 : (t.op == 4) = true := beq_iff_eq.2 o
  have za0 : ¬ 9223372036854775807 < 1 + a.size := by omega
  have za1 : ¬ 9223372036854775807 < 1 + a.size + 1 := by omega
  have zb0 : ¬ 9223372036854775807 < (1 + a.size + 1) := by omega
  have zb1 : ¬ 9223372036854775807 < (1 + a.size + 1) + 1 := by omega
  have zb2 : ¬ 9223372036854775807 < (1 + a.size + 1) + 1 + b.size := by omega
  have zc0 : ¬ 9223372036854775807 < a.size + 1 := by omega
  have zc1 : ¬ 9223372036854775807 < a.size + 1 + b.size := by omega
  have zd : ¬ 9223372036854775807 < 1 + a.size + 1 + 1 := by omega
  have ze : ¬ 9223372036854775807 < 1 + a.size + 1 + 1 + b.size := by omega
  have zf : ¬ 9223372036854775807 < 1 + (1 + a.size + 1 + 1 + b.size) := by omega
  have zg : ¬ 9223372036854775807 < 1 + (1 + a.size + 1 + 1 + b.size) + 1 := by omega
  have zh : ¬ 9223372036854775807 < 1 + (a.size + 1 + b.size) := by omega
  have zi : ¬ 9223372036854775807 < 1 + (a.size + 1 + b.size) + 1 := by omega
  have hll := Lib.hid (show t.kids.length = 2 by omega)
  have HXE := Lib.hid (show ∀ h : 0 < t.kids.length, t.kids[0] = x from fun h => hx.symm)
  clear ea eb hbr hx o hl
  clear HE ht h0 h1 h2 h3 hk hbe hlb hzl ew hb
  go_enter Try.func168, Try.ntmps168
  go_wp2_with fail
  rw [← EQ.out]
  go_loopw [3, 11] (fun v i wr => ∃ (j : Nat) (Av : Option Addr) (cv : Nat), j ≤ t.kids.length ∧ i = .int .i64 j ∧ v = .slice Av j cv ∧ Hid (Gsh wr (w.heap.size + 1) 9 1 (.slice Av j cv) j (((t.kids.map GNode.text).take j).map D.str)) ∧ Hid (Below (w.heap.size + 1) w0 wr)) (fun _ i _ => t.kids.length - (intOf i).toNat)
  case atStart => exact ⟨0, _, _, by omega, by go_num, rfl, G0, Lib.hid (Below.refl _ _)⟩
  case round =>
    clear G0
    obtain ⟨j, Av, cv, hj, rfl, rfl, HG, HB⟩ := hrel
    have hszw : w.heap.size + 1 ≤ wr.heap.size := Nat.le_trans HSZ.out HB.out.size
    by_cases hlt : j < t.kids.length
    · obtain ⟨b, off, A2, c2, eA, hSb, g0, g1, g2, g3, g4, hat⟩ := GNode.elem (K0.out.keep (w' := wr) (S' := Lt w.heap.size) (fun q hq => ⟨hq, HB.out.block q (Nat.lt_succ_of_lt hq)⟩)) j hlt
      subst eA
      have E1 := Lib.hid (show Below wr.heap.size wr (wr.alloc (.cells #[.int .i64 (t.kids[j]).op, .int .i64 (t.kids[j]).n, .string (t.kids[j]).s, .string (t.kids[j]).t, .slice A2 (t.kids[j]).kids.length c2] 49)) from (Below.refl _ _).alloc (Nat.le_refl _) _)
      have HXJ := Lib.hid (HX.out j hlt A2 c2 (wr.alloc (.cells #[.int .i64 (t.kids[j]).op, .int .i64 (t.kids[j]).n, .string (t.kids[j]).s, .string (t.kids[j]).t, .slice A2 (t.kids[j]).kids.length c2] 49)) ((hat.below (Below.refl _ _) (by omega : w.heap.size ≤ wr.heap.size)).below E1.out E1.out.size))
      have G1 := Lib.hid (HG.out.below E1.out hszw)
      have B1 := Lib.hid (HB.out.trans (E1.out.mono hszw))
      have hzk := HZK.out j hlt
      have HT := Lib.hid (show (t.kids.map GNode.text).take (j + 1) = (t.kids.map GNode.text).take j ++ [(t.kids[j]).text] by rw [List.take_succ_eq_append_getElem (by simpa using hlt), List.getElem_map])
      have hns : (t.kids[j]).text.size ≤ maxLen := by unfold maxLen; omega
      clear hat
      go_wp2_with fail
      refine HXJ.out.mono ?_
      rintro e w1 ⟨rfl, hb1⟩
      have hszw1 := Nat.le_trans hszw (Nat.le_trans E1.out.size hb1.size)
      have G2 := Lib.hid (G1.out.below hb1 (Nat.le_trans hszw E1.out.size))
      have B2 := Lib.hid (B1.out.trans (hb1.mono (Nat.le_trans hszw E1.out.size)))
      have HD := Lib.hid (show (D.str (t.kids[j]).text).rd w1 (Lt (w.heap.size + 1)) [.string (t.kids[j]).text] from D.rd_str.2 ⟨rfl, hns⟩)
      clear hb1 hns
      go_wp2_with (first | (at_builtin; refine wpList_append_S w1 rfl (.tmp 15) (.tmp 18) 202 rfl 9 (.string ⟨#[]⟩) 1 16 Try.underlying202 (by kernel_rfl) rfl (by omega) (w.heap.size + 1) (.slice Av j cv) j _ G2.out (D.str (t.kids[j]).text) [.string (t.kids[j]).text] HD.out hszw1 rfl (by simp [Value.oneCell']) (by omega) (by omega) 9 rfl w1.heap.size rfl rfl ?_; intro g cap w3 G3 Bq3 hs3 hg3 hgl3))
      go_roundw
      case rel => exact ⟨j + 1, some ⟨g, 0, none⟩, cap, by omega, by go_num, rfl, Lib.hid (by rw [HT.out, List.map_append]; exact G3), Lib.hid (B2.out.trans Bq3)⟩
      case measure => simp [intOf]; omega
    · have hjl : j = t.kids.length := by omega
      have HT := Lib.hid (show (t.kids.map GNode.text).take j = t.kids.map GNode.text by rw [hjl, List.take_of_length_le (by simp)])
      rw [HT.out] at HG
      have RW := Lib.hid (R.out.below HB.out (Nat.lt_succ_self _))
      have BW := Lib.hid (E.out.trans (HB.out.mono (Nat.le_succ _)))
      have hR := fun i => RW.out.cell i
      have q0 := upRow RW.out
      have hl := hll.out
      obtain ⟨A9, c9, eV, hSL⟩ := HG.out.sl hszw
      obtain ⟨g, cur, eG, hgB, RG⟩ := Gsh.row HG.out (by omega)
      cases eV
      subst hjl
      obtain ⟨b0, f0, ee0, hs0, z0, hm0⟩ := hSL.strAtW 0 (by simpa using (by omega : 0 < t.kids.length))
      subst ee0
      rw [← Ha.out (by simpa using (by omega : 0 < t.kids.length))] at z0
      obtain ⟨b1, f1, ee1, hs1, z1, hm1⟩ := hSL.strAtW 1 (by simpa using (by omega : 1 < t.kids.length))
      simp only [Option.some.injEq, Addr.mk.injEq, and_true] at ee1
      obtain ⟨rfl, rfl⟩ := ee1
      rw [← Hb.out (by simpa using (by omega : 1 < t.kids.length))] at z1
      simp only [Option.some.injEq, Addr.mk.injEq, and_true] at eG
      obtain ⟨rfl, rfl⟩ := eG
      simp only [Nat.zero_add, Nat.add_zero] at z0 z1
      have hi0 : (0 : Int) < (t.kids.length : Int) := by omega
      have hin0 : 0 < t.kids.length := by omega
      have hi1 : (1 : Int) < (t.kids.length : Int) := by omega
      have hin1 : 1 < t.kids.length := by omega
      obtain ⟨b7, f7, A7, c7, eA, hS7, x0, x1, x2, x3, x4, hat⟩ := GNode.elem (K0.out.keep (w' := wr) (S' := Lt w.heap.size) (fun q hq => ⟨hq, HB.out.block q (Nat.lt_succ_of_lt hq)⟩)) 0 hin0
      subst eA
      rw [HXE.out hin0] at x0 x1 x2 x3 x4 hat
      simp only [Nat.zero_mul, Nat.add_zero] at x0 x1 x2 x3 x4
      have HBR := Lib.hid (implBare x A7 c7 wr (hat.below (Below.refl _ _) (by omega : w.heap.size ≤ wr.heap.size)))
      have hg0 : b0 < wr.heap.size := hs0
      clear hl hSL hm0 hm1 hat
      cases hbb : (x.op == 15 && x.kids.length == 0)
      · have hw := Lib.hid (show t.text = ⟨#[40]⟩ ++ (a ++ ⟨#[32]⟩ ++ b) ++ ⟨#[41]⟩ by rw [hv.out, hbb]; rfl)
        rw [hbb] at HBR
        clear hbb
        go_wp2_with fail
        refine HBR.out.mono ?_
        rintro e w8 ⟨rfl, hb8⟩
        have B8 := Lib.hid hb8
        have y0 := (hb8.cell (p := ⟨b0, 0, none⟩) hg0).trans z0
        have y1 := (hb8.cell (p := ⟨b0, 1, none⟩) hg0).trans z1
        have RW8 := Lib.hid (RW.out.below hb8 RW.out.lt)
        have u0 := upCell (p := ⟨b0, 0, none⟩) (Nat.lt_of_lt_of_le hg0 hb8.size) y0
        have u1 := upCell (p := ⟨b0, 1, none⟩) (Nat.lt_of_lt_of_le hg0 hb8.size) y1
        clear hb8 q0 x0 x1 x2 x3 x4 z0 z1
        go_wp2_with fail
        refine wp_region_up w8 (Below.refl _ _) (by kernel_rfl) (by kernel_rfl) ?_
        repeat (go_big_quiet_step (fail))
        refine wpQuiet_nil ?_
        rintro w9 ⟨x9, e9⟩
        have B9 := Lib.hid (show Below w8.heap.size w8 w9 by rw [e9]; exact x9.h)
        clear e9 x9 u0 u1
        go_wp2_with fail
        go_ret
        exact ⟨ret_str (by rw [hw.out]), BW.out.trans ((B8.out.trans (B9.out.mono B8.out.size)).mono BW.out.size)⟩
      · have hw := Lib.hid (show t.text = ⟨#[40]⟩ ++ ((⟨#[40]⟩ ++ a ++ ⟨#[41]⟩) ++ ⟨#[32]⟩ ++ b) ++ ⟨#[41]⟩ by rw [hv.out, hbb]; rfl)
        rw [hbb] at HBR
        clear hbb
        go_wp2_with fail
        refine HBR.out.mono ?_
        rintro e w8 ⟨rfl, hb8⟩
        have B8 := Lib.hid hb8
        have y0 := (hb8.cell (p := ⟨b0, 0, none⟩) hg0).trans z0
        have y1 := (hb8.cell (p := ⟨b0, 1, none⟩) hg0).trans z1
        have RG8 := RG.below hb8 RG.lt
        have hfz := RG8.frozen 0
        have hcu0 : cur[0]? = some (.string a) := (RG8.cell 0).symm.trans y0
        have hcu1 : cur[1]? = some (.string b) := (RG8.cell 1).symm.trans y1
        obtain ⟨wS, eS⟩ : ∃ wS, wS = w8.setCell ⟨b0, 0, none⟩ (.string (⟨#[40]⟩ ++ a ++ ⟨#[41]⟩)) := ⟨_, rfl⟩
        have RS : Row wS b0 9 (cur.setIfInBounds 0 (.string (⟨#[40]⟩ ++ a ++ ⟨#[41]⟩))) := by rw [eS]; exact RG8.set 0 _
        have v0 : wS.cell? ⟨b0, 0, none⟩ = some (.string (⟨#[40]⟩ ++ a ++ ⟨#[41]⟩)) := by rw [RS.cell 0]; obtain ⟨hlt0, -⟩ := Array.getElem?_eq_some_iff.1 hcu0; rw [Array.getElem?_setIfInBounds_self_of_lt hlt0]
        have v1 : wS.cell? ⟨b0, 1, none⟩ = some (.string b) := by rw [RS.cell 1, Array.getElem?_setIfInBounds_ne (by omega)]; exact hcu1
        have u0 := upCell (p := ⟨b0, 0, none⟩) RS.lt v0
        have u1 := upCell (p := ⟨b0, 1, none⟩) RS.lt v1
        have BS := Lib.hid (show Below w.heap.size w wS by rw [eS]; exact (BW.out.trans (hb8.mono BW.out.size)).setCell (by omega : w.heap.size ≤ b0) _)
        have ES := Lib.hid eS
        clear hb8 q0 x0 x1 x2 x3 x4 z0 z1 RS v0 v1 hcu0 hcu1 eS
        go_wp2_with fail
        rw [← ES.out]
        refine wp_region_up wS (Below.refl _ _) (by kernel_rfl) (by kernel_rfl) ?_
        repeat (go_big_quiet_step (fail))
        refine wpQuiet_nil ?_
        rintro w9 ⟨x9, e9⟩
        have B9 := Lib.hid (show Below wS.heap.size wS w9 by rw [e9]; exact x9.h)
        clear e9 x9 u0 u1
        go_wp2_with fail
        go_ret
        exact ⟨ret_str (by rw [hw.out]), BS.out.trans (B9.out.mono BS.out.size)⟩

end Go.Proofs.Ytgbcdfeflgnogaa

/- The program's write (5). Conditions: what the program holds is at most 1048576. -/
namespace Go.Proofs.Ytgbcdfeflgnogaa
open Go.RowKit Go.BigFrame
set_option linter.unusedVariables false
set_option linter.unusedSimpArgs false
set_option maxHeartbeats 800000

theorem Sl.cellsW {w : World} {S : Nat → Prop} {b o c : Nat} {l : List ByteArray} (h : Sl w S 1 (some ⟨b, o, none⟩) c (l.map D.str)) (j : Nat) (hj : j < l.length) : w.cell? ⟨b, o + j, none⟩ = some (.string l[j]) := by
  obtain ⟨b', o', e, -, hc, -⟩ := h.strAtW j hj
  simp only [Option.some.injEq, Addr.mk.injEq, and_true] at e
  obtain ⟨rfl, rfl⟩ := e
  exact hc

set_option maxRecDepth 20000 in
theorem implWrite_15 (t : GNode) (A1 : Option Addr) (c1 : Nat) (w : World) (hb : t.bulk ≤ 1048576) (o : t.op = 15)
    (HE : ∀ x ∈ t.kids, ∀ (A2 : Option Addr) (c2 : Nat) (w2 : World), GNode.At w2 (Lt w2.heap.size) A2 c2 x → Calls Try.prog 168 #[.agg #[.int .i64 x.op, .int .i64 x.n, .string x.s, .string x.t, .slice A2 x.kids.length c2]] w2 fun e w' => e = .returned (.string x.text) ∧ Below w2.heap.size w2 w')
    (ht : GNode.At w (Lt w.heap.size) A1 c1 t) :
    Calls Try.prog 168 #[.agg #[.int .i64 t.op, .int .i64 t.n, .string t.s, .string t.t, .slice A1 t.kids.length c1]] w fun e w' => e = .returned (.string t.text) ∧ Below w.heap.size w w' := by
  obtain ⟨h0, h1, h2, h3, hk⟩ := id ht
  have hn := wf64 h1
  have hlen : t.kids.length ≤ 9223372036854775807 := by simpa using hk.len
  have hbe := t.bulk_eq
  have hlb := bulkL_len GNode.bulk t.kids
  have hl6 : t.kids.length ≤ 1048576 := by omega
  have hzs : t.s.size ≤ 1048576 := by omega
  have hzt : t.t.size ≤ 1048576 := by omega
  have hzl := t.lens_kids
  have hzl2 : lensB (t.kids.map GNode.text) ≤ 41943040 := by omega
  obtain ⟨w0, ew⟩ : ∃ w0, w0 = (w.alloc (.cells #[.int .i64 t.op, .int .i64 t.n, .string t.s, .string t.t, .slice A1 t.kids.length c1] 49)).alloc (.cells #[] 9) := ⟨_, rfl⟩
  have E := Lib.hid (show Below w.heap.size w w0 by rw [ew]; exact ((Below.refl _ _).alloc (Nat.le_refl _) _).alloc (by simp) _)
  have R := Lib.hid (show Row w0 w.heap.size 49 #[.int .i64 t.op, .int .i64 t.n, .string t.s, .string t.t, .slice A1 t.kids.length c1] by rw [ew]; exact (Row.new _ _ _).alloc _)
  have G0 := Lib.hid (show Gsh w0 (w.heap.size + 1) 9 1 (.slice (some ⟨w.heap.size + 1, 0, none⟩) 0 0) 0 [] from Gsh.made (by rw [ew]; exact Row.new' _ _ _ (by simp)) (Nat.le_refl _))
  have HSZ := Lib.hid (show w.heap.size + 1 ≤ w0.heap.size by rw [ew]; simp)
  have EQ := Lib.hid ew
  have K0 := Lib.hid (hk.below E.out (Nat.le_refl _))
  have HX := Lib.hid (fun (j : Nat) (hj : j < t.kids.length) => HE t.kids[j] (List.getElem_mem hj))
  have HZK := Lib.hid (fun (j : Nat) (hj : j < t.kids.length) => show (t.kids[j]).text.size ≤ 41943060 from by have := (t.kids[j]).text_size; have := bulkL_mem GNode.bulk t.kids _ (List.getElem_mem hj); omega)
  have HE0 := Lib.hid (show t.kids.length = 0 → t.text = t.s from fun h => by rw [t.text_eq]; unfold nodeTextOf; rw [if_neg (by omega), if_neg (by omega), if_neg (by omega), if_neg (by omega), if_pos (.inl o), List.length_map, if_pos h])
  have HE1 := Lib.hid (show ¬ t.kids.length = 0 → t.text = ⟨#[40]⟩ ++ (t.s ++ ⟨#[32]⟩ ++ joinB ⟨#[32]⟩ (t.kids.map GNode.text)) ++ ⟨#[41]⟩ from fun h => by rw [t.text_eq]; unfold nodeTextOf; rw [if_neg (by omega), if_neg (by omega), if_neg (by omega), if_neg (by omega), if_pos (.inl o), List.length_map, if_neg h])
  have hzj : (joinB ⟨#[32]⟩ (t.kids.map GNode.text)).size ≤ 41943040 := Nat.le_trans (joinB_size (by rw [ba1]; omega) _) hzl2
  have p1 : (t.op == 1) = false := beq_eq_false_iff_ne.2 (by omega)
  have p19 : (t.op == 19) = false := beq_eq_false_iff_ne.2 (by omega)
  have p2 : (t.op == 2) = false := beq_eq_false_iff_ne.2 (by omega)
  have p18 : (t.op == 18) = false := beq_eq_false_iff_ne.2 (by omega)
  have p17 : (t.op == 17) = false := beq_eq_false_iff_ne.2 (by omega)
  have p8 : (t.op == 8) = false := beq_eq_false_iff_ne.2 (by omega)
  have p3 : (t.op == 3) = false := beq_eq_false_iff_ne.2 (by omega)
  have p4 : (t.op == 4) = false := beq_eq_false_iff_ne.2 (by omega)
  have p5 : (t.op == 5) = false := beq_eq_false_iff_ne.2 (by omega)
  have p6 : (t.op == 6) = false := beq_eq_false_iff_ne.2 (by omega)
  have p7 : (t.op == 7) = false := beq_eq_false_iff_ne.2 (by omega)
  have p9 : (t.op == 9) = false := beq_eq_false_iff_ne.2 (by omega)
  have p16 : (t.op == 16) = false := beq_eq_false_iff_ne.2 (by omega)
  have p15 : (t.op == 15) = true := beq_iff_eq.2 o
  clear o
  clear HE ht h0 h1 h2 h3 hk hbe hlb hzl ew hb
  go_enter Try.func168, Try.ntmps168
  go_wp2_with fail
  rw [← EQ.out]
  go_loopw [3, 11] (fun v i wr => ∃ (j : Nat) (Av : Option Addr) (cv : Nat), j ≤ t.kids.length ∧ i = .int .i64 j ∧ v = .slice Av j cv ∧ Hid (Gsh wr (w.heap.size + 1) 9 1 (.slice Av j cv) j (((t.kids.map GNode.text).take j).map D.str)) ∧ Hid (Below (w.heap.size + 1) w0 wr)) (fun _ i _ => t.kids.length - (intOf i).toNat)
  case atStart => exact ⟨0, _, _, by omega, by go_num, rfl, G0, Lib.hid (Below.refl _ _)⟩
  case round =>
    clear G0
    obtain ⟨j, Av, cv, hj, rfl, rfl, HG, HB⟩ := hrel
    have hszw : w.heap.size + 1 ≤ wr.heap.size := Nat.le_trans HSZ.out HB.out.size
    by_cases hlt : j < t.kids.length
    · obtain ⟨b, off, A2, c2, eA, hSb, g0, g1, g2, g3, g4, hat⟩ := GNode.elem (K0.out.keep (w' := wr) (S' := Lt w.heap.size) (fun q hq => ⟨hq, HB.out.block q (Nat.lt_succ_of_lt hq)⟩)) j hlt
      subst eA
      have E1 := Lib.hid (show Below wr.heap.size wr (wr.alloc (.cells #[.int .i64 (t.kids[j]).op, .int .i64 (t.kids[j]).n, .string (t.kids[j]).s, .string (t.kids[j]).t, .slice A2 (t.kids[j]).kids.length c2] 49)) from (Below.refl _ _).alloc (Nat.le_refl _) _)
      have HXJ := Lib.hid (HX.out j hlt A2 c2 (wr.alloc (.cells #[.int .i64 (t.kids[j]).op, .int .i64 (t.kids[j]).n, .string (t.kids[j]).s, .string (t.kids[j]).t, .slice A2 (t.kids[j]).kids.length c2] 49)) ((hat.below (Below.refl _ _) (by omega : w.heap.size ≤ wr.heap.size)).below E1.out E1.out.size))
      have G1 := Lib.hid (HG.out.below E1.out hszw)
      have B1 := Lib.hid (HB.out.trans (E1.out.mono hszw))
      have hzk := HZK.out j hlt
      have HT := Lib.hid (show (t.kids.map GNode.text).take (j + 1) = (t.kids.map GNode.text).take j ++ [(t.kids[j]).text] by rw [List.take_succ_eq_append_getElem (by simpa using hlt), List.getElem_map])
      have hns : (t.kids[j]).text.size ≤ maxLen := by unfold maxLen; omega
      clear hat
      go_wp2_with fail
      refine HXJ.out.mono ?_
      rintro e w1 ⟨rfl, hb1⟩
      have hszw1 := Nat.le_trans hszw (Nat.le_trans E1.out.size hb1.size)
      have G2 := Lib.hid (G1.out.below hb1 (Nat.le_trans hszw E1.out.size))
      have B2 := Lib.hid (B1.out.trans (hb1.mono (Nat.le_trans hszw E1.out.size)))
      have HD := Lib.hid (show (D.str (t.kids[j]).text).rd w1 (Lt (w.heap.size + 1)) [.string (t.kids[j]).text] from D.rd_str.2 ⟨rfl, hns⟩)
      clear hb1 hns
      go_wp2_with (first | (at_builtin; refine wpList_append_S w1 rfl (.tmp 15) (.tmp 18) 202 rfl 9 (.string ⟨#[]⟩) 1 16 Try.underlying202 (by kernel_rfl) rfl (by omega) (w.heap.size + 1) (.slice Av j cv) j _ G2.out (D.str (t.kids[j]).text) [.string (t.kids[j]).text] HD.out hszw1 rfl (by simp [Value.oneCell']) (by omega) (by omega) 9 rfl w1.heap.size rfl rfl ?_; intro g cap w3 G3 Bq3 hs3 hg3 hgl3))
      go_roundw
      case rel => exact ⟨j + 1, some ⟨g, 0, none⟩, cap, by omega, by go_num, rfl, Lib.hid (by rw [HT.out, List.map_append]; exact G3), Lib.hid (B2.out.trans Bq3)⟩
      case measure => simp [intOf]; omega
    · have hjl : j = t.kids.length := by omega
      have HT := Lib.hid (show (t.kids.map GNode.text).take j = t.kids.map GNode.text by rw [hjl, List.take_of_length_le (by simp)])
      rw [HT.out] at HG
      have RW := Lib.hid (R.out.below HB.out (Nat.lt_succ_self _))
      have BW := Lib.hid (E.out.trans (HB.out.mono (Nat.le_succ _)))
      have hR := fun i => RW.out.cell i
      have q0 := upRow RW.out
      obtain ⟨A9, C9, eV, hSL⟩ := HG.out.sl hszw
      cases eV
      subst hjl
      by_cases hl0 : t.kids.length = 0
      · have hv := Lib.hid (HE0.out hl0)
        have f3 : ((t.kids.length : Int) == 0) = true := by rw [hl0]; rfl
        clear hl0 hSL
        go_wp2_with fail
        go_ret
        exact ⟨ret_str hv.out.symm, BW.out⟩
      · have hv := Lib.hid (HE1.out hl0)
        have f3 : ((t.kids.length : Int) == 0) = false := by rw [beq_eq_false_iff_ne]; omega
        obtain ⟨b0, f0, ee0, hs0, z0, hm0⟩ := hSL.strAtW 0 (by simpa using (by omega : 0 < t.kids.length))
        subst ee0
        have hcap : t.kids.length ≤ cv := by have := hSL.1; simpa using this
        have HJ := Lib.hid (fun (wx : World) (hbx : Below wr.heap.size wr wx) => implJoin b0 f0 cv (t.kids.map GNode.text) ⟨#[32]⟩ wx (fun j h => (hSL.below hbx hbx.size).cellsW j h) (Nat.lt_of_lt_of_le hs0 hbx.size) (by rw [List.length_map]; omega) (by rw [List.length_map]; exact hcap) (by omega))
        rw [List.length_map] at HJ
        have za : ¬ 9223372036854775807 < t.s.size + 1 := by omega
        have zb : ¬ 9223372036854775807 < t.s.size + 1 + (joinB ⟨#[32]⟩ (t.kids.map GNode.text)).size := by omega
        have zy : ¬ 9223372036854775807 < 1 + (t.s.size + 1 + (joinB ⟨#[32]⟩ (t.kids.map GNode.text)).size) := by omega
        have zx : ¬ 9223372036854775807 < 1 + (t.s.size + 1 + (joinB ⟨#[32]⟩ (t.kids.map GNode.text)).size) + 1 := by omega
        clear hl0 hSL z0 hm0
        go_wp2_with fail
        refine wp_region_up wr (Below.refl _ _) (by kernel_rfl) (by kernel_rfl) ?_
        repeat (go_big_quiet_step (first | (go_at_call 167; exact upCall (HJ.out _ (Up.h _)))))
        refine wpQuiet_nil ?_
        rintro w9 ⟨x9, e9⟩
        have B9 := Lib.hid (show Below wr.heap.size wr w9 by rw [e9]; exact x9.h)
        clear e9 x9 q0
        go_wp2_with fail
        go_ret
        exact ⟨ret_str (by rw [hv.out]), BW.out.trans (B9.out.mono BW.out.size)⟩

set_option maxRecDepth 20000 in
theorem implWrite_20 (t : GNode) (A1 : Option Addr) (c1 : Nat) (w : World) (hb : t.bulk ≤ 1048576) (o : t.op = 20)
    (HE : ∀ x ∈ t.kids, ∀ (A2 : Option Addr) (c2 : Nat) (w2 : World), GNode.At w2 (Lt w2.heap.size) A2 c2 x → Calls Try.prog 168 #[.agg #[.int .i64 x.op, .int .i64 x.n, .string x.s, .string x.t, .slice A2 x.kids.length c2]] w2 fun e w' => e = .returned (.string x.text) ∧ Below w2.heap.size w2 w')
    (ht : GNode.At w (Lt w.heap.size) A1 c1 t) :
    Calls Try.prog 168 #[.agg #[.int .i64 t.op, .int .i64 t.n, .string t.s, .string t.t, .slice A1 t.kids.length c1]] w fun e w' => e = .returned (.string t.text) ∧ Below w.heap.size w w' := by
  obtain ⟨h0, h1, h2, h3, hk⟩ := id ht
  have hn := wf64 h1
  have hlen : t.kids.length ≤ 9223372036854775807 := by simpa using hk.len
  have hbe := t.bulk_eq
  have hlb := bulkL_len GNode.bulk t.kids
  have hl6 : t.kids.length ≤ 1048576 := by omega
  have hzs : t.s.size ≤ 1048576 := by omega
  have hzt : t.t.size ≤ 1048576 := by omega
  have hzl := t.lens_kids
  have hzl2 : lensB (t.kids.map GNode.text) ≤ 41943040 := by omega
  obtain ⟨w0, ew⟩ : ∃ w0, w0 = (w.alloc (.cells #[.int .i64 t.op, .int .i64 t.n, .string t.s, .string t.t, .slice A1 t.kids.length c1] 49)).alloc (.cells #[] 9) := ⟨_, rfl⟩
  have E := Lib.hid (show Below w.heap.size w w0 by rw [ew]; exact ((Below.refl _ _).alloc (Nat.le_refl _) _).alloc (by simp) _)
  have R := Lib.hid (show Row w0 w.heap.size 49 #[.int .i64 t.op, .int .i64 t.n, .string t.s, .string t.t, .slice A1 t.kids.length c1] by rw [ew]; exact (Row.new _ _ _).alloc _)
  have G0 := Lib.hid (show Gsh w0 (w.heap.size + 1) 9 1 (.slice (some ⟨w.heap.size + 1, 0, none⟩) 0 0) 0 [] from Gsh.made (by rw [ew]; exact Row.new' _ _ _ (by simp)) (Nat.le_refl _))
  have HSZ := Lib.hid (show w.heap.size + 1 ≤ w0.heap.size by rw [ew]; simp)
  have EQ := Lib.hid ew
  have K0 := Lib.hid (hk.below E.out (Nat.le_refl _))
  have HX := Lib.hid (fun (j : Nat) (hj : j < t.kids.length) => HE t.kids[j] (List.getElem_mem hj))
  have HZK := Lib.hid (fun (j : Nat) (hj : j < t.kids.length) => show (t.kids[j]).text.size ≤ 41943060 from by have := (t.kids[j]).text_size; have := bulkL_mem GNode.bulk t.kids _ (List.getElem_mem hj); omega)
  have HE0 := Lib.hid (show t.kids.length = 0 → t.text = t.s from fun h => by rw [t.text_eq]; unfold nodeTextOf; rw [if_neg (by omega), if_neg (by omega), if_neg (by omega), if_neg (by omega), if_pos (.inr o), List.length_map, if_pos h])
  have HE1 := Lib.hid (show ¬ t.kids.length = 0 → t.text = ⟨#[40]⟩ ++ (t.s ++ ⟨#[32]⟩ ++ joinB ⟨#[32]⟩ (t.kids.map GNode.text)) ++ ⟨#[41]⟩ from fun h => by rw [t.text_eq]; unfold nodeTextOf; rw [if_neg (by omega), if_neg (by omega), if_neg (by omega), if_neg (by omega), if_pos (.inr o), List.length_map, if_neg h])
  have hzj : (joinB ⟨#[32]⟩ (t.kids.map GNode.text)).size ≤ 41943040 := Nat.le_trans (joinB_size (by rw [ba1]; omega) _) hzl2
  have p1 : (t.op == 1) = false := beq_eq_false_iff_ne.2 (by omega)
  have p19 : (t.op == 19) = false := beq_eq_false_iff_ne.2 (by omega)
  have p2 : (t.op == 2) = false := beq_eq_false_iff_ne.2 (by omega)
  have p18 : (t.op == 18) = false := beq_eq_false_iff_ne.2 (by omega)
  have p17 : (t.op == 17) = false := beq_eq_false_iff_ne.2 (by omega)
  have p8 : (t.op == 8) = false := beq_eq_false_iff_ne.2 (by omega)
  have p3 : (t.op == 3) = false := beq_eq_false_iff_ne.2 (by omega)
  have p4 : (t.op == 4) = false := beq_eq_false_iff_ne.2 (by omega)
  have p5 : (t.op == 5) = false := beq_eq_false_iff_ne.2 (by omega)
  have p6 : (t.op == 6) = false := beq_eq_false_iff_ne.2 (by omega)
  have p7 : (t.op == 7) = false := beq_eq_false_iff_ne.2 (by omega)
  have p9 : (t.op == 9) = false := beq_eq_false_iff_ne.2 (by omega)
  have p16 : (t.op == 16) = false := beq_eq_false_iff_ne.2 (by omega)
  have p15 : (t.op == 15) = false := beq_eq_false_iff_ne.2 (by omega)
  have p20 : (t.op == 20) = true := beq_iff_eq.2 o
  clear o
  clear HE ht h0 h1 h2 h3 hk hbe hlb hzl ew hb
  go_enter Try.func168, Try.ntmps168
  go_wp2_with fail
  rw [← EQ.out]
  go_loopw [3, 11] (fun v i wr => ∃ (j : Nat) (Av : Option Addr) (cv : Nat), j ≤ t.kids.length ∧ i = .int .i64 j ∧ v = .slice Av j cv ∧ Hid (Gsh wr (w.heap.size + 1) 9 1 (.slice Av j cv) j (((t.kids.map GNode.text).take j).map D.str)) ∧ Hid (Below (w.heap.size + 1) w0 wr)) (fun _ i _ => t.kids.length - (intOf i).toNat)
  case atStart => exact ⟨0, _, _, by omega, by go_num, rfl, G0, Lib.hid (Below.refl _ _)⟩
  case round =>
    clear G0
    obtain ⟨j, Av, cv, hj, rfl, rfl, HG, HB⟩ := hrel
    have hszw : w.heap.size + 1 ≤ wr.heap.size := Nat.le_trans HSZ.out HB.out.size
    by_cases hlt : j < t.kids.length
    · obtain ⟨b, off, A2, c2, eA, hSb, g0, g1, g2, g3, g4, hat⟩ := GNode.elem (K0.out.keep (w' := wr) (S' := Lt w.heap.size) (fun q hq => ⟨hq, HB.out.block q (Nat.lt_succ_of_lt hq)⟩)) j hlt
      subst eA
      have E1 := Lib.hid (show Below wr.heap.size wr (wr.alloc (.cells #[.int .i64 (t.kids[j]).op, .int .i64 (t.kids[j]).n, .string (t.kids[j]).s, .string (t.kids[j]).t, .slice A2 (t.kids[j]).kids.length c2] 49)) from (Below.refl _ _).alloc (Nat.le_refl _) _)
      have HXJ := Lib.hid (HX.out j hlt A2 c2 (wr.alloc (.cells #[.int .i64 (t.kids[j]).op, .int .i64 (t.kids[j]).n, .string (t.kids[j]).s, .string (t.kids[j]).t, .slice A2 (t.kids[j]).kids.length c2] 49)) ((hat.below (Below.refl _ _) (by omega : w.heap.size ≤ wr.heap.size)).below E1.out E1.out.size))
      have G1 := Lib.hid (HG.out.below E1.out hszw)
      have B1 := Lib.hid (HB.out.trans (E1.out.mono hszw))
      have hzk := HZK.out j hlt
      have HT := Lib.hid (show (t.kids.map GNode.text).take (j + 1) = (t.kids.map GNode.text).take j ++ [(t.kids[j]).text] by rw [List.take_succ_eq_append_getElem (by simpa using hlt), List.getElem_map])
      have hns : (t.kids[j]).text.size ≤ maxLen := by unfold maxLen; omega
      clear hat
      go_wp2_with fail
      refine HXJ.out.mono ?_
      rintro e w1 ⟨rfl, hb1⟩
      have hszw1 := Nat.le_trans hszw (Nat.le_trans E1.out.size hb1.size)
      have G2 := Lib.hid (G1.out.below hb1 (Nat.le_trans hszw E1.out.size))
      have B2 := Lib.hid (B1.out.trans (hb1.mono (Nat.le_trans hszw E1.out.size)))
      have HD := Lib.hid (show (D.str (t.kids[j]).text).rd w1 (Lt (w.heap.size + 1)) [.string (t.kids[j]).text] from D.rd_str.2 ⟨rfl, hns⟩)
      clear hb1 hns
      go_wp2_with (first | (at_builtin; refine wpList_append_S w1 rfl (.tmp 15) (.tmp 18) 202 rfl 9 (.string ⟨#[]⟩) 1 16 Try.underlying202 (by kernel_rfl) rfl (by omega) (w.heap.size + 1) (.slice Av j cv) j _ G2.out (D.str (t.kids[j]).text) [.string (t.kids[j]).text] HD.out hszw1 rfl (by simp [Value.oneCell']) (by omega) (by omega) 9 rfl w1.heap.size rfl rfl ?_; intro g cap w3 G3 Bq3 hs3 hg3 hgl3))
      go_roundw
      case rel => exact ⟨j + 1, some ⟨g, 0, none⟩, cap, by omega, by go_num, rfl, Lib.hid (by rw [HT.out, List.map_append]; exact G3), Lib.hid (B2.out.trans Bq3)⟩
      case measure => simp [intOf]; omega
    · have hjl : j = t.kids.length := by omega
      have HT := Lib.hid (show (t.kids.map GNode.text).take j = t.kids.map GNode.text by rw [hjl, List.take_of_length_le (by simp)])
      rw [HT.out] at HG
      have RW := Lib.hid (R.out.below HB.out (Nat.lt_succ_self _))
      have BW := Lib.hid (E.out.trans (HB.out.mono (Nat.le_succ _)))
      have hR := fun i => RW.out.cell i
      have q0 := upRow RW.out
      obtain ⟨A9, C9, eV, hSL⟩ := HG.out.sl hszw
      cases eV
      subst hjl
      by_cases hl0 : t.kids.length = 0
      · have hv := Lib.hid (HE0.out hl0)
        have f3 : ((t.kids.length : Int) == 0) = true := by rw [hl0]; rfl
        clear hl0 hSL
        go_wp2_with fail
        go_ret
        exact ⟨ret_str hv.out.symm, BW.out⟩
      · have hv := Lib.hid (HE1.out hl0)
        have f3 : ((t.kids.length : Int) == 0) = false := by rw [beq_eq_false_iff_ne]; omega
        obtain ⟨b0, f0, ee0, hs0, z0, hm0⟩ := hSL.strAtW 0 (by simpa using (by omega : 0 < t.kids.length))
        subst ee0
        have hcap : t.kids.length ≤ cv := by have := hSL.1; simpa using this
        have HJ := Lib.hid (fun (wx : World) (hbx : Below wr.heap.size wr wx) => implJoin b0 f0 cv (t.kids.map GNode.text) ⟨#[32]⟩ wx (fun j h => (hSL.below hbx hbx.size).cellsW j h) (Nat.lt_of_lt_of_le hs0 hbx.size) (by rw [List.length_map]; omega) (by rw [List.length_map]; exact hcap) (by omega))
        rw [List.length_map] at HJ
        have za : ¬ 9223372036854775807 < t.s.size + 1 := by omega
        have zb : ¬ 9223372036854775807 < t.s.size + 1 + (joinB ⟨#[32]⟩ (t.kids.map GNode.text)).size := by omega
        have zy : ¬ 9223372036854775807 < 1 + (t.s.size + 1 + (joinB ⟨#[32]⟩ (t.kids.map GNode.text)).size) := by omega
        have zx : ¬ 9223372036854775807 < 1 + (t.s.size + 1 + (joinB ⟨#[32]⟩ (t.kids.map GNode.text)).size) + 1 := by omega
        clear hl0 hSL z0 hm0
        go_wp2_with fail
        refine wp_region_up wr (Below.refl _ _) (by kernel_rfl) (by kernel_rfl) ?_
        repeat (go_big_quiet_step (first | (go_at_call 167; exact upCall (HJ.out _ (Up.h _)))))
        refine wpQuiet_nil ?_
        rintro w9 ⟨x9, e9⟩
        have B9 := Lib.hid (show Below wr.heap.size wr w9 by rw [e9]; exact x9.h)
        clear e9 x9 q0
        go_wp2_with fail
        go_ret
        exact ⟨ret_str (by rw [hv.out]), BW.out.trans (B9.out.mono BW.out.size)⟩

end Go.Proofs.Ytgbcdfeflgnogaa

/- The program's write (6). Conditions: what the program holds is at most 1048576. -/
namespace Go.Proofs.Ytgbcdfeflgnogaa
open Go.RowKit Go.BigFrame
set_option linter.unusedVariables false
set_option linter.unusedSimpArgs false
set_option maxHeartbeats 800000

set_option maxRecDepth 20000 in
theorem implWrite_7 (t : GNode) (A1 : Option Addr) (c1 : Nat) (w : World) (hb : t.bulk ≤ 1048576) (o : t.op = 7) (hl : 2 ≤ t.kids.length)
    (HE : ∀ x ∈ t.kids, ∀ (A2 : Option Addr) (c2 : Nat) (w2 : World), GNode.At w2 (Lt w2.heap.size) A2 c2 x → Calls Try.prog 168 #[.agg #[.int .i64 x.op, .int .i64 x.n, .string x.s, .string x.t, .slice A2 x.kids.length c2]] w2 fun e w' => e = .returned (.string x.text) ∧ Below w2.heap.size w2 w')
    (ht : GNode.At w (Lt w.heap.size) A1 c1 t) :
    Calls Try.prog 168 #[.agg #[.int .i64 t.op, .int .i64 t.n, .string t.s, .string t.t, .slice A1 t.kids.length c1]] w fun e w' => e = .returned (.string t.text) ∧ Below w.heap.size w w' := by
  obtain ⟨h0, h1, h2, h3, hk⟩ := id ht
  have hn := wf64 h1
  have hlen : t.kids.length ≤ 9223372036854775807 := by simpa using hk.len
  have hbe := t.bulk_eq
  have hlb := bulkL_len GNode.bulk t.kids
  have hl6 : t.kids.length ≤ 1048576 := by omega
  have hzs : t.s.size ≤ 1048576 := by omega
  have hzt : t.t.size ≤ 1048576 := by omega
  have hzl := t.lens_kids
  have hzl2 : lensB (t.kids.map GNode.text) ≤ 41943040 := by omega
  obtain ⟨w0, ew⟩ : ∃ w0, w0 = (w.alloc (.cells #[.int .i64 t.op, .int .i64 t.n, .string t.s, .string t.t, .slice A1 t.kids.length c1] 49)).alloc (.cells #[] 9) := ⟨_, rfl⟩
  have E := Lib.hid (show Below w.heap.size w w0 by rw [ew]; exact ((Below.refl _ _).alloc (Nat.le_refl _) _).alloc (by simp) _)
  have R := Lib.hid (show Row w0 w.heap.size 49 #[.int .i64 t.op, .int .i64 t.n, .string t.s, .string t.t, .slice A1 t.kids.length c1] by rw [ew]; exact (Row.new _ _ _).alloc _)
  have G0 := Lib.hid (show Gsh w0 (w.heap.size + 1) 9 1 (.slice (some ⟨w.heap.size + 1, 0, none⟩) 0 0) 0 [] from Gsh.made (by rw [ew]; exact Row.new' _ _ _ (by simp)) (Nat.le_refl _))
  have HSZ := Lib.hid (show w.heap.size + 1 ≤ w0.heap.size by rw [ew]; simp)
  have EQ := Lib.hid ew
  have K0 := Lib.hid (hk.below E.out (Nat.le_refl _))
  have HX := Lib.hid (fun (j : Nat) (hj : j < t.kids.length) => HE t.kids[j] (List.getElem_mem hj))
  have HZK := Lib.hid (fun (j : Nat) (hj : j < t.kids.length) => show (t.kids[j]).text.size ≤ 41943060 from by have := (t.kids[j]).text_size; have := bulkL_mem GNode.bulk t.kids _ (List.getElem_mem hj); omega)
  obtain ⟨a, ea⟩ : ∃ x, x = atB (t.kids.map GNode.text) 0 := ⟨_, rfl⟩
  have Ha := Lib.hid (show ∀ h : 0 < (t.kids.map GNode.text).length, a = (t.kids.map GNode.text)[0] from fun h => by rw [ea, atB_get h])
  have hza : a.size ≤ 41943040 := by rw [Ha.out (by simpa using (by omega : 0 < t.kids.length))]; exact Nat.le_trans (lensB_get _) hzl2
  obtain ⟨J, eJ⟩ : ∃ J, J = joinB ⟨#[59, 32]⟩ ((t.kids.map GNode.text).drop 1) := ⟨_, rfl⟩
  have HJe := Lib.hid eJ
  have hv := Lib.hid (show t.text = ⟨#[40]⟩ ++ (⟨#[99, 97, 115, 101, 32]⟩ ++ a ++ ⟨#[32, 111, 102, 32, 123, 32]⟩ ++ J ++ ⟨#[32, 125]⟩) ++ ⟨#[41]⟩ by rw [t.text_eq]; unfold nodeTextOf; rw [if_neg (by omega), if_neg (by omega), if_neg (by omega), if_neg (by omega), if_neg (by omega)]; unfold bodyOf; rw [if_neg (by omega), if_neg (by omega), if_neg (by omega), if_neg (by omega), if_pos o]; rw [← ea, ← eJ])
  have p1 : (t.op == 1) = false := beq_eq_false_iff_ne.2 (by omega)
  have p19 : (t.op == 19) = false := beq_eq_false_iff_ne.2 (by omega)
  have p2 : (t.op == 2) = false := beq_eq_false_iff_ne.2 (by omega)
  have p18 : (t.op == 18) = false := beq_eq_false_iff_ne.2 (by omega)
  have p17 : (t.op == 17) = false := beq_eq_false_iff_ne.2 (by omega)
  have p8 : (t.op == 8) = false := beq_eq_false_iff_ne.2 (by omega)
  have p3 : (t.op == 3) = false := beq_eq_false_iff_ne.2 (by omega)
  have p4 : (t.op == 4) = false := beq_eq_false_iff_ne.2 (by omega)
  have p5 : (t.op == 5) = false := beq_eq_false_iff_ne.2 (by omega)
  have p6 : (t.op == 6) = false := beq_eq_false_iff_ne.2 (by omega)
  have p7 : (t.op == 7) = true := beq_iff_eq.2 o
  have hzj : J.size ≤ 41943040 := by rw [eJ]; have := (at3 (t.kids.map GNode.text)).2; omega
  have zz0 : ¬ 9223372036854775807 < 5 + a.size := by omega
  have zz1 : ¬ 9223372036854775807 < 5 + a.size + 6 := by omega
  have zz2 : ¬ 9223372036854775807 < 5 + a.size + 6 + J.size := by omega
  have zz3 : ¬ 9223372036854775807 < 5 + a.size + 6 + J.size + 2 := by omega
  have zy : ¬ 9223372036854775807 < 1 + (5 + a.size + 6 + J.size + 2) := by omega
  have zx : ¬ 9223372036854775807 < 1 + (5 + a.size + 6 + J.size + 2) + 1 := by omega
  have hll := Lib.hid (show 2 ≤ t.kids.length by omega)
  clear ea eJ
  clear o hl
  clear HE ht h0 h1 h2 h3 hk hbe hlb hzl ew hb
  go_enter Try.func168, Try.ntmps168
  go_wp2_with fail
  rw [← EQ.out]
  go_loopw [3, 11] (fun v i wr => ∃ (j : Nat) (Av : Option Addr) (cv : Nat), j ≤ t.kids.length ∧ i = .int .i64 j ∧ v = .slice Av j cv ∧ Hid (Gsh wr (w.heap.size + 1) 9 1 (.slice Av j cv) j (((t.kids.map GNode.text).take j).map D.str)) ∧ Hid (Below (w.heap.size + 1) w0 wr)) (fun _ i _ => t.kids.length - (intOf i).toNat)
  case atStart => exact ⟨0, _, _, by omega, by go_num, rfl, G0, Lib.hid (Below.refl _ _)⟩
  case round =>
    clear G0
    obtain ⟨j, Av, cv, hj, rfl, rfl, HG, HB⟩ := hrel
    have hszw : w.heap.size + 1 ≤ wr.heap.size := Nat.le_trans HSZ.out HB.out.size
    by_cases hlt : j < t.kids.length
    · obtain ⟨b, off, A2, c2, eA, hSb, g0, g1, g2, g3, g4, hat⟩ := GNode.elem (K0.out.keep (w' := wr) (S' := Lt w.heap.size) (fun q hq => ⟨hq, HB.out.block q (Nat.lt_succ_of_lt hq)⟩)) j hlt
      subst eA
      have E1 := Lib.hid (show Below wr.heap.size wr (wr.alloc (.cells #[.int .i64 (t.kids[j]).op, .int .i64 (t.kids[j]).n, .string (t.kids[j]).s, .string (t.kids[j]).t, .slice A2 (t.kids[j]).kids.length c2] 49)) from (Below.refl _ _).alloc (Nat.le_refl _) _)
      have HXJ := Lib.hid (HX.out j hlt A2 c2 (wr.alloc (.cells #[.int .i64 (t.kids[j]).op, .int .i64 (t.kids[j]).n, .string (t.kids[j]).s, .string (t.kids[j]).t, .slice A2 (t.kids[j]).kids.length c2] 49)) ((hat.below (Below.refl _ _) (by omega : w.heap.size ≤ wr.heap.size)).below E1.out E1.out.size))
      have G1 := Lib.hid (HG.out.below E1.out hszw)
      have B1 := Lib.hid (HB.out.trans (E1.out.mono hszw))
      have hzk := HZK.out j hlt
      have HT := Lib.hid (show (t.kids.map GNode.text).take (j + 1) = (t.kids.map GNode.text).take j ++ [(t.kids[j]).text] by rw [List.take_succ_eq_append_getElem (by simpa using hlt), List.getElem_map])
      have hns : (t.kids[j]).text.size ≤ maxLen := by unfold maxLen; omega
      clear hat
      go_wp2_with fail
      refine HXJ.out.mono ?_
      rintro e w1 ⟨rfl, hb1⟩
      have hszw1 := Nat.le_trans hszw (Nat.le_trans E1.out.size hb1.size)
      have G2 := Lib.hid (G1.out.below hb1 (Nat.le_trans hszw E1.out.size))
      have B2 := Lib.hid (B1.out.trans (hb1.mono (Nat.le_trans hszw E1.out.size)))
      have HD := Lib.hid (show (D.str (t.kids[j]).text).rd w1 (Lt (w.heap.size + 1)) [.string (t.kids[j]).text] from D.rd_str.2 ⟨rfl, hns⟩)
      clear hb1 hns
      go_wp2_with (first | (at_builtin; refine wpList_append_S w1 rfl (.tmp 15) (.tmp 18) 202 rfl 9 (.string ⟨#[]⟩) 1 16 Try.underlying202 (by kernel_rfl) rfl (by omega) (w.heap.size + 1) (.slice Av j cv) j _ G2.out (D.str (t.kids[j]).text) [.string (t.kids[j]).text] HD.out hszw1 rfl (by simp [Value.oneCell']) (by omega) (by omega) 9 rfl w1.heap.size rfl rfl ?_; intro g cap w3 G3 Bq3 hs3 hg3 hgl3))
      go_roundw
      case rel => exact ⟨j + 1, some ⟨g, 0, none⟩, cap, by omega, by go_num, rfl, Lib.hid (by rw [HT.out, List.map_append]; exact G3), Lib.hid (B2.out.trans Bq3)⟩
      case measure => simp [intOf]; omega
    · have hjl : j = t.kids.length := by omega
      have HT := Lib.hid (show (t.kids.map GNode.text).take j = t.kids.map GNode.text by rw [hjl, List.take_of_length_le (by simp)])
      rw [HT.out] at HG
      have RW := Lib.hid (R.out.below HB.out (Nat.lt_succ_self _))
      have BW := Lib.hid (E.out.trans (HB.out.mono (Nat.le_succ _)))
      have hR := fun i => RW.out.cell i
      have q0 := upRow RW.out
      have hl := hll.out
      obtain ⟨A9, c9, eV, hSL⟩ := HG.out.sl hszw
      cases eV
      subst hjl
      obtain ⟨b0, f0, ee0, hs0, z0, hm0⟩ := hSL.strAtW 0 (by simpa using (by omega : 0 < t.kids.length))
      subst ee0
      rw [← Ha.out (by simpa using (by omega : 0 < t.kids.length))] at z0
      obtain ⟨n, hn1⟩ : ∃ n, t.kids.length = n + 1 := ⟨t.kids.length - 1, by omega⟩
      have hcap : t.kids.length ≤ cv := by have := hSL.1; simpa using this
      have htl := fun (wx : World) => run_tailAt (P := Try.prog) 202 9 1 Try.underlying202 (by kernel_rfl) b0 f0 n cv (by omega) wx
      rw [show tailAt b0 f0 1 cv = some ⟨b0, f0 + 1, none⟩ from if_neg (by omega), ← hn1] at htl
      have hdl : ((t.kids.map GNode.text).drop 1).length = n := by rw [List.length_drop, List.length_map]; omega
      have HJ := Lib.hid (fun (wx : World) (hbx : Below wr.heap.size wr wx) => implJoin b0 (f0 + 1) (cv - 1) ((t.kids.map GNode.text).drop 1) ⟨#[59, 32]⟩ wx (fun j h => by
        have h2 := (hSL.below hbx hbx.size).cellsW (1 + j) (by rw [hdl] at h; rw [List.length_map]; omega)
        rw [List.getElem_drop, Nat.add_assoc]; exact h2) (Nat.lt_of_lt_of_le hs0 hbx.size) (by rw [hdl]; omega) (by rw [hdl]; omega) (by rw [← HJe.out]; omega))
      rw [hdl, ← HJe.out] at HJ
      have hn1i : (1 : Int) ≤ (t.kids.length : Int) := by omega
      have hn1n : 1 ≤ t.kids.length := by omega
      clear hn1 hdl
      have hi0 : (0 : Int) < (t.kids.length : Int) := by omega
      have hin0 : 0 < t.kids.length := by omega
      have u0 := upCell (p := ⟨b0, f0 + 0, none⟩) hs0 z0
      simp only [Nat.add_zero] at u0 z0
      clear hl hSL hm0
      go_wp2_with fail
      refine wp_region_up wr (Below.refl _ _) (by kernel_rfl) (by kernel_rfl) ?_
      repeat (go_big_quiet_step (first | (go_at_call 167; exact upCall (HJ.out _ (Up.h _)))))
      refine wpQuiet_nil ?_
      rintro w9 ⟨x9, e9⟩
      have B9 := Lib.hid (show Below wr.heap.size wr w9 by rw [e9]; exact x9.h)
      have R9 := Lib.hid (RW.out.below B9.out RW.out.lt)
      have hc9 := fun i => R9.out.cell i
      clear e9 x9 q0
      go_wp2_with fail
      go_ret
      exact ⟨ret_str (by rw [hv.out]), BW.out.trans (B9.out.mono BW.out.size)⟩

end Go.Proofs.Ytgbcdfeflgnogaa

/- The program's write: a tidy node as text. Conditions: what the program holds is at most 1048576. -/
namespace Go.Proofs.Ytgbcdfeflgnogaa
open Go.RowKit Go.BigFrame
set_option linter.unusedVariables false
set_option linter.unusedSimpArgs false
set_option maxHeartbeats 800000

/-- a node that is written -/
def Wr (t : GNode) : Prop := t.exp = true ∨ t.alt = true ∨ t.pat = true
theorem Wr.kids {t : GNode} (h : Wr t) : ∀ x ∈ t.kids, Wr x := by
  intro x hx
  rcases h with h | h | h
  · by_cases h7 : t.op = 7
    · obtain ⟨y, r, hk, hy, hr⟩ := exp_case h h7
      rw [hk] at hx
      rcases List.mem_cons.1 hx with rfl | hx
      · exact .inl hy
      · exact .inr (.inl (hr x hx))
    · exact .inl (exp_kids h h7 x hx)
  · obtain ⟨-, p, y, hk, hp, hy⟩ := alt_kids h
    rw [hk] at hx
    rcases List.mem_cons.1 hx with rfl | hx
    · exact .inr (.inr hp)
    · rw [List.mem_singleton.1 hx]; exact .inl hy
  · exact .inr (.inr (pat_kids h x hx))

set_option maxRecDepth 20000 in
theorem implWrite (k : Nat) : ∀ (t : GNode) (A1 : Option Addr) (c1 : Nat) (w : World), t.bulk < k → t.bulk ≤ 1048576 → Wr t → GNode.At w (Lt w.heap.size) A1 c1 t →
    Calls Try.prog 168 #[.agg #[.int .i64 t.op, .int .i64 t.n, .string t.s, .string t.t, .slice A1 t.kids.length c1]] w fun e w' => e = .returned (.string t.text) ∧ Below w.heap.size w w' := by
  induction k with
  | zero => intros; omega
  | succ k ih =>
    intro t A1 c1 w hk0 hb hw ht
    have hbe := t.bulk_eq
    have HE : ∀ x ∈ t.kids, ∀ (A2 : Option Addr) (c2 : Nat) (w2 : World), GNode.At w2 (Lt w2.heap.size) A2 c2 x → Calls Try.prog 168 #[.agg #[.int .i64 x.op, .int .i64 x.n, .string x.s, .string x.t, .slice A2 x.kids.length c2]] w2 fun e w' => e = .returned (.string x.text) ∧ Below w2.heap.size w2 w' := fun x hx A2 c2 w2 hx2 => ih x A2 c2 w2 (by have := bulkL_mem GNode.bulk t.kids x hx; omega) (by have := bulkL_mem GNode.bulk t.kids x hx; omega) (hw.kids x hx) hx2
    rcases hw with h | h | h
    · rcases exp_len h with h | h | h | h | h | h | h | h | h | h | h
      · exact implWrite_1 t A1 c1 w hb h.1 h.2.1 HE ht
      · exact implWrite_2 t A1 c1 w hb h.1 HE ht
      · exact implWrite_3 t A1 c1 w hb h.1 h.2 HE ht
      · exact implWrite_4 t A1 c1 w hb h.1 h.2 HE ht
      · exact implWrite_5 t A1 c1 w hb h.1 h.2 HE ht
      · exact implWrite_6 t A1 c1 w hb h.1 h.2 HE ht
      · exact implWrite_7 t A1 c1 w hb h.1 h.2 HE ht
      · exact implWrite_9 t A1 c1 w hb h.1 h.2 HE ht
      · exact implWrite_16 t A1 c1 w hb h.1 h.2 HE ht
      · exact implWrite_15 t A1 c1 w hb h HE ht
      · exact implWrite_r t A1 c1 w hb h.1 h.2 HE ht
    · obtain ⟨h8, p, y, hk, -, -⟩ := alt_kids h
      exact implWrite_8 t A1 c1 w hb h8 (by rw [hk]; rfl) HE ht
    · rcases pat_ops h with h | h | h | h
      · exact implWrite_17 t A1 c1 w hb h HE ht
      · exact implWrite_18 t A1 c1 w hb h HE ht
      · exact implWrite_19 t A1 c1 w hb h.1 h.2 HE ht
      · exact implWrite_20 t A1 c1 w hb h HE ht
end Go.Proofs.Ytgbcdfeflgnogaa
