/- Coverage: all cons of a data, where rows begin with all of them, in the program. Conditions: the sizes are bounded. -/
import Derived.Test.YtgbcdfeflgnogaaCoverS
import Derived.Test.YtgbcdfeflgnogaaFRow
import Derived.Test.YtgbcdfeflgnogaaGData
namespace Go.Proofs.Ytgbcdfeflgnogaa
open Go.RowKit
set_option linter.unusedVariables false
set_option linter.unusedSimpArgs false
set_option maxHeartbeats 1000000

theorem conOf_lt {s : ByteArray} : ∀ {l : List GData} {n j k : Nat}, conOf s l n = some (j, k) → n ≤ j ∧ j < n + l.length
  | [], _, _, _, h => by simp [conOf] at h
  | d :: r, n, j, k, h => by
    rw [conOf] at h
    split at h
    · simp only [Option.some.injEq, Prod.mk.injEq] at h; simp; omega
    · have := conOf_lt h; simp; omega
theorem conI_range (s : ByteArray) (ds : List GData) : (conI (conOf s ds 0)).1 = -1 ∨ ∃ j : Nat, j < ds.length ∧ (conI (conOf s ds 0)).1 = j := by
  cases h : conOf s ds 0 with
  | none => exact .inl rfl
  | some x => obtain ⟨j, k⟩ := x; exact .inr ⟨j, by have := conOf_lt h; omega, rfl⟩
theorem dataStep_range {ds : List GData} {a : Int} (r : List GNode) (h : a = -1 ∨ ∃ j : Nat, j < ds.length ∧ a = j) : dataStep ds a r = -1 ∨ ∃ j : Nat, j < ds.length ∧ dataStep ds a r = j := by
  unfold dataStep
  split
  · exact conI_range _ ds
  · exact h
theorem dataFold_range {ds : List GData} : ∀ (rows : List (List GNode)) {a : Int}, (a = -1 ∨ ∃ j : Nat, j < ds.length ∧ a = j) → rows.foldl (dataStep ds) a = -1 ∨ ∃ j : Nat, j < ds.length ∧ rows.foldl (dataStep ds) a = j
  | [], _, h => h
  | r :: t, _, h => dataFold_range t (dataStep_range r h)
theorem dataAt_range (ds : List GData) (rows : List (List GNode)) : dataAt ds rows = -1 ∨ ∃ j : Nat, j < ds.length ∧ dataAt ds rows = j := dataFold_range rows (.inl rfl)
theorem allR_neg {ds : List GData} {rows : List (List GNode)} (h : dataAt ds rows < 0) : allR ds rows = none := by unfold allR; rw [if_pos h]
theorem allR_at {ds : List GData} {rows : List (List GNode)} {j : Nat} (h : dataAt ds rows = j) (hj : j < ds.length) : allR ds rows = if allIn rows ds[j].cons = true then some (ds[j].cons.map conN) else none := by
  unfold allR; rw [if_neg (by omega), h, Int.toNat_natCast, List.getElem?_eq_getElem hj]
theorem allIn_snoc {rows : List (List GNode)} {cs : List GCon} {k : Nat} (h : k < cs.length) : allIn rows (cs.take (k + 1)) = (allIn rows (cs.take k) && rows.any (headIs cs[k].name)) := by
  unfold allIn; rw [take_snoc' cs k h, List.all_append]; simp
theorem allIn_no {rows : List (List GNode)} {cs : List GCon} {k : Nat} (h : k < cs.length) (hno : rows.any (headIs cs[k].name) = false) : allIn rows cs = false := by
  unfold allIn; rw [List.all_eq_false]; exact ⟨cs[k], List.getElem_mem h, by simpa using hno⟩

theorem ret_sb {A : Option Addr} {n m c : Nat} {b : Bool} (h : n = m) : Ending.returned (.tuple #[.slice A n c, .bool b]) = .returned (.tuple #[.slice A m c, .bool b]) := by rw [h]
theorem conRowSl {X : Nat → Prop} {w w' : World} {T : TypeId} {v : Value} {con : GCon} {A5 : Option Addr} {c5 : Nat} (hv : ∀ g, v.ownBlock = some g → g < w.heap.size) (hX : X w.heap.size) (hn : con.name.size ≤ maxLen)
    (e : w' = w.alloc (.cells #[.int .i64 20, .int .i64 0, .string con.name, .string ⟨#[]⟩, .slice A5 con.args.length c5] T)) (hs : Sl w (Lx (Xo v X) w) 5 A5 c5 ((List.replicate con.args.length anyN).map GNode.toD)) :
    Sl w' (fun b => b < w'.heap.size ∧ v.ownBlock ≠ some b ∧ X b) 5 (some ⟨w.heap.size, 0, none⟩) 1 ([conN con].map GNode.toD) := by
  subst e
  have hB : Below w.heap.size w (w.alloc (.cells #[.int .i64 20, .int .i64 0, .string con.name, .string ⟨#[]⟩, .slice A5 con.args.length c5] T)) := (Below.refl _ _).alloc (Nat.le_refl _) _
  have hk : (conN con).kids = List.replicate con.args.length anyN := rfl
  have hl : (conN con).kids.length = con.args.length := by rw [hk]; simp
  refine slOne (d := (conN con).toD) (T := T) (cs := [.int .i64 20, .int .i64 0, .string con.name, .string ⟨#[]⟩, .slice A5 con.args.length c5]) (Row.new w T _) ?_ rfl ⟨by simp, fun h => by have := hv _ h; omega, hX⟩
  have h := GNode.rd_mk (t := conN con) (A1 := A5) (c1 := c5) (w := w.alloc (.cells #[.int .i64 20, .int .i64 0, .string con.name, .string ⟨#[]⟩, .slice A5 con.args.length c5] T)) (S := fun b => b < (w.alloc (.cells #[.int .i64 20, .int .i64 0, .string con.name, .string ⟨#[]⟩, .slice A5 con.args.length c5] T)).heap.size ∧ v.ownBlock ≠ some b ∧ X b) ⟨(show (Lit.int IntKind.i64 20).wf = true by decide), (show (Lit.int IntKind.i64 0).wf = true by decide), hn, (show ByteArray.empty.size ≤ maxLen by unfold maxLen; simp), by rw [hk]; exact hs.lx hB⟩
  rw [hl] at h
  exact h
/-- all cons, or none -/
def AllTo (X : Nat → Prop) (r : Option (List GNode)) (w : World) (e : Ending) (w' : World) : Prop :=
  Below w.heap.size w w' ∧ match r with
    | none => ∃ A n c, e = .returned (.tuple #[.slice A n c, .bool false])
    | some l => ∃ A c, e = .returned (.tuple #[.slice A l.length c, .bool true]) ∧ Sl w' (Lx X w') 5 A c (l.map GNode.toD)

theorem implConRow1 (s : ByteArray) (b : Nat) (q : GNode) (t : List GNode) (A1 : Option Addr) (c1 : Nat) (w : World) (hc : w.cell? ⟨b, 0, none⟩ = some (.string s)) (hs : Sl w (Lt w.heap.size) 5 A1 c1 ((q :: t).map GNode.toD)) :
    Calls Try.prog 290 #[.slice A1 (t.length + 1) c1, .pointer (some ⟨b, 0, none⟩)] w fun e w' => e = .returned (.bool (headIs s (q :: t))) ∧ Below w.heap.size w w' := by
  obtain ⟨b1, off1, A2, c2, rfl, hSb1, hlc, hcm, q0, q1, q2, q3, q4, hat, -, -⟩ := row_head hs
  clear hat q1 q3 q4 hs
  cases h20 : (q.op == 20)
  · have HV := Lib.hid (show headIs s (q :: t) = false by unfold headIs hd; simp [h20])
    go_enter Try.func290, Try.ntmps290
    go_wp2_with fail
    go_quiet (fail)
    go_wp2_with fail
    go_ret
    exact ⟨ret_bool HV.out.symm, belowN (Below.refl _ _) _⟩
  · have HV := Lib.hid (show headIs s (q :: t) = (q.s.toList == s.toList) by unfold headIs hd; simp [h20])
    go_enter Try.func290, Try.ntmps290
    go_wp2_with fail
    go_quiet (fail)
    go_wp2_with fail
    go_ret
    exact ⟨ret_bool HV.out.symm, belowN (Below.refl _ _) _⟩

theorem implConRow (rows : List (List GNode)) (A : Option Addr) (c : Nat) (s : ByteArray) (w : World) (hn : ∀ r ∈ rows, 0 < r.length) (hs : Sl w (Lt w.heap.size) 1 A c (rows.map rowD)) :
    Calls Try.prog 242 #[.slice A rows.length c, .string s] w fun e w' => e = .returned (.int .i64 (idxI (headIs s) rows)) ∧ Below w.heap.size w w' := by
  have hlen : rows.length ≤ 9223372036854775807 := by simpa using hs.len
  have HS := Lib.hid hs
  have HN := Lib.hid hn
  obtain ⟨w0, e0⟩ : ∃ w0, w0 = w.alloc (.cells #[.string s] 9) := ⟨_, rfl⟩
  have E0 := Lib.hid (show Below w.heap.size w w0 by rw [e0]; exact (Below.refl _ _).alloc (Nat.le_refl _) _)
  have R0 := Lib.hid (show Row w0 w.heap.size 9 #[.string s] by rw [e0]; exact Row.new' _ _ _ rfl)
  clear hs hn
  go_enter Try.func242, Try.ntmps242
  go_wp2_with fail
  rw [← e0]
  refine (indexFuncRow 290 (enters Try.func290 (by kernel_rfl) (by kernel_rfl)) #[.pointer (some ⟨w.heap.size, 0, none⟩)] (headIs s) rows A c w0 (HS.out.keep fun k hk => ⟨Nat.lt_of_lt_of_le hk E0.out.size, E0.out.block k hk⟩)
    (fun x hx A2 c2 w2 hb2 hat2 => by
      obtain ⟨q, t, rfl⟩ := List.exists_cons_of_length_pos (HN.out x hx)
      have R2 := R0.out.below hb2 R0.out.lt
      exact implConRow1 s w.heap.size q t A2 c2 w2 (R2.cell 0) (hat2.keep fun k hk => ⟨Nat.lt_of_lt_of_le hk hb2.size, rfl⟩))).mono ?_
  rintro e w1 ⟨rfl, hb1⟩
  go_wp2_with fail
  go_ret
  exact ⟨rfl, E0.out.trans (hb1.mono E0.out.size)⟩

set_option maxRecDepth 20000 in
theorem implWhole (X : Nat → Prop) (g : Nat) (s : Int) (ds : List GData) (A0 : Option Addr) (c0 : Nat) (rows : List (List GNode)) (A : Option Addr) (c : Nat) (w : World) (hX : ∀ b, w.heap.size ≤ b → X b)
    (hR : Row w g 135 #[.slice A0 ds.length c0, .int .i64 s]) (hds : Sl w (Lx X w) 3 A0 c0 (ds.map GData.toD)) (hn : ∀ r ∈ rows, 0 < r.length) (hM : ∀ d ∈ ds, d.cons.length ≤ 1048576 ∧ ∀ k ∈ d.cons, k.args.length ≤ 1048576) (hs : Sl w (Lx X w) 1 A c (rows.map rowD)) :
    Calls Try.prog 180 #[.pointer (some ⟨g, 0, none⟩), .slice A rows.length c] w (AllTo X (allR ds rows) w) := by
  have hlen : rows.length ≤ 9223372036854775807 := by simpa using hs.len
  have hdl : ds.length ≤ 9223372036854775807 := by simpa using hds.len
  have HX := Lib.hid hX
  have HS := Lib.hid hs
  have HD := Lib.hid hds
  have HN := Lib.hid hn
  have HM := Lib.hid hM
  have HG := Lib.hid hR
  have HT := Lib.hid (fun (j : Nat) (h : j < rows.length) => dataAt_snoc ds h)
  clear hX hs hds hn hM hR
  go_enter Try.func180, Try.ntmps180
  go_wp2_with fail
  go_loopw [6, 14] (fun v i wr => ∃ (j : Nat) (d : Int), j ≤ rows.length ∧ i = .int .i64 j ∧ v = .int .i64 d ∧ Hid (d = dataAt ds (rows.take j)) ∧ Hid (Below w.heap.size w wr)) (fun _ i _ => rows.length - (intOf i).toNat)
  case atStart => exact ⟨0, -1, by omega, by go_num, rfl, Lib.hid rfl, Lib.hid (Below.refl _ _)⟩
  case round =>
    rename World => wo
    obtain ⟨j, d, hj, rfl, rfl, HV, HB⟩ := hrel
    have hsz := HB.out.size
    have HGr := Lib.hid (HG.out.below HB.out HG.out.lt)
    by_cases hlt : j < rows.length
    · obtain ⟨b, off, A1, c1, rfl, hSb, g0, hs1⟩ := rowD_elem (HS.out.stay HB.out) j hlt
      obtain ⟨q, t, hqt⟩ := List.exists_cons_of_length_pos (HN.out _ (List.getElem_mem hlt))
      have HTJ := Lib.hid (HT.out j hlt)
      rw [hqt] at g0 hs1
      rw [List.length_cons] at g0
      obtain ⟨b1, off1, A2, c2, rfl, hSb1, hlc, hcm, q0, q1, q2, q3, q4, hat, -, -⟩ := row_head hs1
      have HQ := Lib.hid hqt
      clear hqt hat hs1 q1 q3 q4
      cases h20 : (q.op == 20)
      · have n20 : (q.op != 20) = true := by simp [bne, h20]
        have HW := Lib.hid (show d = dataAt ds (rows.take (j + 1)) by rw [HTJ.out, HQ.out, ← HV.out]; unfold dataStep; rw [if_neg (by rintro ⟨_, h⟩; change q.op = 20 at h; simp [h] at h20)])
        go_wp2_with fail
        go_roundw
        case rel => exact ⟨j + 1, d, by omega, by go_num, rfl, HW, HB⟩
        case measure => simp [intOf]; omega
      · have n20 : (q.op != 20) = false := by simp [bne, h20]
        by_cases hd : d < 0
        · have HW := Lib.hid (show (conI (conOf q.s ds 0)).1 = dataAt ds (rows.take (j + 1)) by rw [HTJ.out, HQ.out, ← HV.out]; unfold dataStep; rw [if_pos ⟨hd, by change q.op = 20; simpa using h20⟩]; rfl)
          have hge : decide (d ≥ 0) = false := by simp; omega
          have hcg := fun i => HGr.out.cell i
          have HC := Lib.hid (implConOf ds A0 c0 q.s wo.drew (HD.out.keep fun k hk => ⟨Nat.lt_of_lt_of_le hk.1 hsz, HB.out.block k hk.1⟩))
          go_wp2_with fail
          go_region_held3 (fun w' => (∀ i, w'.cell? ⟨g, i, none⟩ = (#[.slice A0 ds.length c0, .int .i64 s] : Array Value)[i]?) ∧ w'.cell? ⟨b1, off1 + 2, none⟩ = some (.string q.s)) (first | exact ⟨hcg, q2⟩ | exact ⟨hcg3, q3⟩) (first
            | (go_at_call 218
               go_must (
                 refine HC.out.mono ?_
                 rintro e w3 ⟨rfl, hb3⟩
                 have B3 := Lib.hid (((Below.refl wo.heap.size wo).drew).trans hb3)
                 have R3 := Lib.hid (HGr.out.below B3.out HGr.out.lt)
                 have hcg3 := fun i => R3.out.cell i
                 have q3 := (B3.out.cell (p := ⟨b1, off1 + 2, none⟩) (Nat.lt_of_lt_of_le hSb1.1 hsz)).trans q2
                 clear hb3)))
          all_goals
            go_wp2_with fail
            go_roundw
            case rel => exact ⟨j + 1, _, by omega, by go_num, rfl, HW, Lib.hid (HB.out.trans (B3.out.mono hsz))⟩
            case measure => simp [intOf]; omega
        · have HW := Lib.hid (show d = dataAt ds (rows.take (j + 1)) by rw [HTJ.out, ← HV.out, dataStep_stay (by omega)])
          have hge : decide (d ≥ 0) = true := by simp; omega
          go_wp2_with fail
          go_roundw
          case rel => exact ⟨j + 1, d, by omega, by go_num, rfl, HW, HB⟩
          case measure => simp [intOf]; omega
    · have HVV := Lib.hid (show d = dataAt ds rows by rw [HV.out, show j = rows.length by omega, List.take_length])
      clear HV
      rcases dataAt_range ds rows with hr | ⟨k, hk, hr⟩
      · have hd : d = -1 := by rw [HVV.out, hr]
        subst hd
        have HN0 := Lib.hid (allR_neg (ds := ds) (rows := rows) (by rw [hr]; omega))
        clear hr
        go_wp2_with fail
        go_ret2
        rw [HN0.out]
        exact ⟨HB.out, _, _, _, rfl⟩
      · have hd : d = (k : Int) := by rw [HVV.out, hr]
        subst hd
        have HA := Lib.hid (allR_at hr hk)
        clear hr
        have hcg := fun i => HGr.out.cell i
        obtain ⟨bd, offd, A1, c1, eA0, hSbd, x0, x1, x2, hatd⟩ := GData.elem (HD.out.stay HB.out) k hk
        have hmem := HM.out _ (List.getElem_mem hk)
        have HMk := Lib.hid hmem.2
        have hcl := hmem.1
        have HC := Lib.hid hatd.2.2
        subst eA0
        clear hatd hmem
        obtain ⟨w0, e0⟩ : ∃ w0, w0 = wo.alloc (.cells #[] 49) := ⟨_, rfl⟩
        have E0 := Lib.hid (show Below wo.heap.size wo w0 by rw [e0]; exact (Below.refl _ _).alloc (Nat.le_refl _) _)
        have HB0 := Lib.hid (HB.out.trans (E0.out.mono hsz))
        have G0 := Lib.hid (show Grx X w0 wo.heap.size 49 5 (.slice (some ⟨wo.heap.size, 0, none⟩) 0 0) 0 [] from Grx.made (by rw [e0]; exact Row.new' _ _ _ rfl) (Nat.le_refl _))
        have R0 := Lib.hid (HGr.out.below E0.out HGr.out.lt)
        have hcg0 := fun i => R0.out.cell i
        have y2 := (E0.out.cell (p := ⟨bd, offd + k * 3 + 2, none⟩) (Nat.lt_of_lt_of_le hSbd.1 hsz)).trans x2
        rw [e0] at hcg0 y2
        go_wp2_with fail
        rw [← e0]
        clear e0 x2
        go_loopw [9, 52] (fun v i wr => ∃ (n : Nat) (A : Option Addr) (c : Nat), n ≤ (ds[k]).cons.length ∧ i = .int .i64 n ∧ v = .slice A n c ∧ Hid (allIn rows ((ds[k]).cons.take n) = true) ∧ Hid (Grx X wr wo.heap.size 49 5 (.slice A n c) n ((((ds[k]).cons.take n).map conN).map GNode.toD)) ∧ Hid (Below w.heap.size w wr) ∧ wo.heap.size ≤ wr.heap.size) (fun _ i _ => (ds[k]).cons.length - (intOf i).toNat)
        case atStart => exact ⟨0, _, _, by omega, by go_num, rfl, Lib.hid rfl, G0, HB0, E0.out.size⟩
        case round =>
          clear G0 HB0 E0 R0 hcg0 y2
          obtain ⟨n, A3, c3, hnl, rfl, rfl, HI, HGx, HBq, hzq⟩ := hrel
          have hsq := HBq.out.size
          have HOW := Lib.hid (fun g (hg : (Value.slice A3 n c3).ownBlock = some g) => HGx.out.own g hg)
          by_cases hnt : n < (ds[k]).cons.length
          · have hn1 : n < 1048576 := by omega
            obtain ⟨b2, off2, A4, c4, rfl, hSb2, p0, p1, hatc⟩ := GCon.elem (show Sl wr (Lx X w) 2 A1 c1 ((ds[k]).cons.map GCon.toD) from HC.out.keep fun b hb => ⟨hb, (HBq.out.block b hb.1).trans (HB.out.block b hb.1).symm⟩) n hnt
            have hal := HMk.out _ (List.getElem_mem hnt)
            have HNS := Lib.hid hatc.1
            clear hatc
            obtain ⟨w1, e1⟩ : ∃ w1, w1 = wr.alloc (.cells #[.string ((ds[k]).cons[n]).name, .slice A4 ((ds[k]).cons[n]).args.length c4] 140) := ⟨_, rfl⟩
            have E1 := Lib.hid (show Below wr.heap.size wr w1 by rw [e1]; exact (Below.refl _ _).alloc (Nat.le_refl _) _)
            have R1 := Lib.hid (show Row w1 wr.heap.size 140 #[.string ((ds[k]).cons[n]).name, .slice A4 ((ds[k]).cons[n]).args.length c4] by rw [e1]; exact Row.new' _ _ _ rfl)
            have HB1 := Lib.hid (HBq.out.trans (E1.out.mono hsq))
            have hc1 := fun i => R1.out.cell i
            have hs11 := HB1.out.size
            have HCR := Lib.hid (implConRow rows A c ((ds[k]).cons[n]).name w1 HN.out (HS.out.keep fun b hb => ⟨Nat.lt_of_lt_of_le hb.1 hs11, HB1.out.block b hb.1⟩))
            have HIS := Lib.hid (allIn_snoc (rows := rows) hnt)
            have HCN := Lib.hid (show ((ds[k]).cons.take (n + 1)).map conN = ((ds[k]).cons.take n).map conN ++ [conN (ds[k]).cons[n]] by rw [take_snoc' _ n hnt, List.map_append]; rfl)
            have HNO := Lib.hid (fun h => allIn_no (rows := rows) hnt h)
            generalize (ds[k]).cons[n] = con at *
            go_wp2_with fail
            rw [← e1]
            refine HCR.out.mono ?_
            rintro e w2 ⟨rfl, hb2⟩
            have HB2 := Lib.hid (HB1.out.trans (hb2.mono hs11))
            have R2 := Lib.hid (R1.out.below hb2 R1.out.lt)
            have G2 := Lib.hid ((HGx.out.below E1.out).below hb2)
            have hc2 := fun i => R2.out.cell i
            have hz2 := Nat.le_trans hzq (Nat.le_trans E1.out.size hb2.size)
            have hs22 := HB2.out.size
            clear hb2 hc1
            cases hy : rows.any (headIs con.name)
            · have HNN := Lib.hid (show allR ds rows = none by rw [HA.out, HNO.out hy]; rfl)
              rw [idxI_any_false hy]
              clear hy
              go_wp2_with fail
              go_ret2
              rw [HNN.out]
              exact ⟨HB2.out, _, _, _, rfl⟩
            · have HI2 := Lib.hid (show allIn rows ((ds[k]).cons.take (n + 1)) = true by rw [HIS.out, HI.out, hy]; rfl)
              have hidx := idxI_any_true hy
              have hlt0 : decide (idxI (headIs con.name) rows < 0) = false := by simp; omega
              clear hy
              generalize idxI (headIs con.name) rows = ix at *
              have HX2 := Lib.hid (Xo.mk (X := X) (v := Value.slice A3 n c3) (fun g hg => (G2.out.own g hg).2) (fun b hb => HX.out b (Nat.le_trans hs22 hb)))
              go_wp2_with fail
              go_region_law (first
                | (rw [← e6]
                   refine step_append_X w6 rfl (.tmp 61) (.tmp 69) 29 rfl 49 zNode 5 72 Try.underlying29 (by kernel_rfl) rfl (by omega) wo.heap.size (.slice A3 n c3) n _ G6.out (some ⟨w5.heap.size, 0, none⟩) 1 1 _ rfl T6.out hs6 (by unfold maxLen; omega) (by omega) rfl rfl ?_
                   intro A7 c7 w7 G7 hGr7
                   have G7h := Lib.hid G7
                   have B7 := Lib.hid (HB6.out.trans (hGr7.below (Nat.le_trans hsz hs6) (fun g hg => Nat.le_trans hsz (G6.out.own g hg).1)))
                   have hz7 := Nat.le_trans hs6 hGr7.size
                   clear G7 hGr7)
                | (go_simp
                   go_at_call 182
                   go_must (
                     refine (implAnything (Xo (Value.slice A3 n c3) X) con.args.length w2.drew HX2.out (by omega)).mono ?_
                     rintro e w5 ⟨A5, c5, rfl, hs5, hb5⟩
                     have E5 := Lib.hid (((Below.refl w2.heap.size w2).drew).trans hb5)
                     have R5 := Lib.hid (R2.out.below E5.out R2.out.lt)
                     have hc5 := fun i => R5.out.cell i
                     have HB5 := Lib.hid (HB2.out.trans (E5.out.mono hs22))
                     obtain ⟨w6, e6⟩ : ∃ w6, w6 = w5.alloc (.cells #[.int .i64 20, .int .i64 0, .string con.name, .string ⟨#[]⟩, .slice A5 con.args.length c5] 49) := ⟨_, rfl⟩
                     have E6 := Lib.hid (show Below w5.heap.size w5 w6 by rw [e6]; exact (Below.refl _ _).alloc (Nat.le_refl _) _)
                     have HB6 := Lib.hid (HB5.out.trans (E6.out.mono HB5.out.size))
                     have G6 := Lib.hid ((G2.out.below E5.out).below E6.out)
                     have hs6 := Nat.le_trans hz2 (Nat.le_trans E5.out.size E6.out.size)
                     have T6 := Lib.hid (conRowSl (v := Value.slice A3 n c3) (fun g hg => Nat.lt_of_lt_of_le (G2.out.own g hg).2 E5.out.size) (HX.out _ HB5.out.size) HNS.out e6 hs5)
                     clear hs5 hb5)))
              all_goals
                go_wp2_with fail
                go_roundw
                case rel => exact ⟨n + 1, A7, c7, by omega, by go_num, rfl, HI2, Lib.hid (by rw [HCN.out, List.map_append]; exact G7h.out), B7, hz7⟩
                case measure => simp [intOf]; omega
          · have hne : n = (ds[k]).cons.length := by omega
            have HE := Lib.hid (show (ds[k]).cons.take n = (ds[k]).cons by rw [hne, List.take_length])
            clear hne
            go_wp2_with fail
            go_ret2
            have hI := HI.out
            have hG := HGx.out
            rw [HE.out] at hI hG
            rw [HA.out, if_pos hI]
            obtain ⟨A5, c5, e5, hs5⟩ := hG.sl (fun b hb => HX.out b (Nat.le_trans hsz hb))
            have hl5 := hG.1
            obtain ⟨rfl, rfl⟩ : A3 = A5 ∧ c3 = c5 := by simpa using e5
            exact ⟨HBq.out, A3, c3, ret_sb (by rw [← hl5]; simp), hs5⟩
end Go.Proofs.Ytgbcdfeflgnogaa
