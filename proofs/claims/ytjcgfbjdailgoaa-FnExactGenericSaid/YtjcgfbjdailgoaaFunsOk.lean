/- FunsOk: whether functions are right, in the program and in the reference. Conditions: none. -/
import Derived.Test.YtjcgfbjdailgoaaOpOk
namespace Go.Proofs.Ytjcgfbjdailgoaa
open Go.RowKit
set_option linter.unusedVariables false
set_option linter.unusedSimpArgs false
set_option maxHeartbeats 1000000

/-- the head of a function: its Free, how many places it has -/
def headB (f : GFun) : Bool := inB f.free 0 20 && inB (f.list.length : Int) 1 3000
def lastB (f : GFun) : Bool := match f.list.getLast? with | some o => decide (o.code = 7 ∨ o.code = 19 ∨ o.code = 21) | none => false
def tailB (l : List GFun) (i : Nat) (f : GFun) : Bool := f.list.all (opB l i f) && lastB f
def AllHead (l : List GFun) (j : Nat) : Prop := ∀ (i : Nat) (h : i < l.length), i < j → headB l[i] = true
def AllTail (l : List GFun) (j : Nat) : Prop := ∀ (i : Nat) (h : i < l.length), i < j → tailB l i l[i] = true
def topB (l : List GFun) : Prop := (1 ≤ l.length ∧ l.length ≤ 60) ∧ (∃ f, l[0]? = some f ∧ f.free = 0)
open Classical in
/-- are functions right -/
noncomputable def funsB (l : List GFun) : Bool := decide (topB l ∧ AllHead l l.length ∧ AllTail l l.length)

open Classical in
theorem funsB_false {l : List GFun} (h : ¬ (topB l ∧ AllHead l l.length ∧ AllTail l l.length)) : funsB l = false := by
  unfold funsB; exact decide_eq_false h
theorem funsB_top {l : List GFun} (h : ¬ topB l) : funsB l = false := funsB_false fun e => h e.1
theorem funsB_head {l : List GFun} (j : Nat) (h : j < l.length) (e : headB l[j] = false) : funsB l = false := funsB_false fun ⟨_, h1, _⟩ => by
  have := h1 j h h; rw [e] at this; cases this
theorem funsB_tail {l : List GFun} (j : Nat) (h : j < l.length) (e : tailB l j l[j] = false) : funsB l = false := funsB_false fun ⟨_, _, h1⟩ => by
  have := h1 j h h; rw [e] at this; cases this
open Classical in
theorem funsB_true {l : List GFun} (h0 : topB l) (h1 : AllHead l l.length) (h2 : AllTail l l.length) : funsB l = true := by
  unfold funsB; exact decide_eq_true ⟨h0, h1, h2⟩
theorem AllHead.succ {l : List GFun} {j : Nat} (h : AllHead l j) (hj : j < l.length) (e : headB l[j] = true) : AllHead l (j + 1) := fun i hi hij => by
  rcases Nat.lt_or_ge i j with h1 | h1
  · exact h i hi h1
  · have : i = j := by omega
    subst this; exact e
theorem AllTail.succ {l : List GFun} {j : Nat} (h : AllTail l j) (hj : j < l.length) (e : tailB l j l[j] = true) : AllTail l (j + 1) := fun i hi hij => by
  rcases Nat.lt_or_ge i j with h1 | h1
  · exact h i hi h1
  · have : i = j := by omega
    subst this; exact e
/-- the first k places are right -/
def OpsTo (l : List GFun) (i : Nat) (f : GFun) (k : Nat) : Prop := ∀ (q : Nat) (h : q < f.list.length), q < k → opB l i f f.list[q] = true
theorem OpsTo.succ {l : List GFun} {i : Nat} {f : GFun} {k : Nat} (h : OpsTo l i f k) (hk : k < f.list.length) (e : opB l i f f.list[k] = true) : OpsTo l i f (k + 1) := fun q hq hqk => by
  rcases Nat.lt_or_ge q k with h1 | h1
  · exact h q hq h1
  · have : q = k := by omega
    subst this; exact e
theorem tailB_op {l : List GFun} {i : Nat} {f : GFun} (k : Nat) (hk : k < f.list.length) (e : opB l i f f.list[k] = false) : tailB l i f = false := by
  unfold tailB
  have : f.list.all (opB l i f) = false := by
    rw [List.all_eq_false]; exact ⟨_, List.getElem_mem hk, by simp [e]⟩
  rw [this]; rfl
theorem tailB_ops {l : List GFun} {i : Nat} {f : GFun} (h : OpsTo l i f f.list.length) : tailB l i f = lastB f := by
  unfold tailB
  have : f.list.all (opB l i f) = true := by
    rw [List.all_eq_true]; intro x hx
    obtain ⟨q, hq, rfl⟩ := List.getElem_of_mem hx
    exact h q hq hq
  rw [this]; rfl
theorem lastB_at {f : GFun} (k : Nat) (h : f.list.length = k + 1) : lastB f = decide ((f.list[k]'(by omega)).code = 7 ∨ (f.list[k]'(by omega)).code = 19 ∨ (f.list[k]'(by omega)).code = 21) := by
  unfold lastB
  have : f.list.getLast? = some (f.list[k]'(by omega)) := by
    rw [List.getLast?_eq_getElem?, List.getElem?_eq_getElem (by omega)]
    congr 1; congr 1; omega
  rw [this]
theorem headB_in {f : GFun} (h : headB f = true) : 0 ≤ f.free ∧ f.free ≤ 20 ∧ 1 ≤ f.list.length ∧ f.list.length ≤ 3000 := by
  unfold headB inB at h; simp at h; omega

theorem headB_eq {f : GFun} {a b : Bool} (h1 : inB f.free 0 20 = a) (h2 : inB (f.list.length : Int) 1 3000 = b) : headB f = (a && b) := by
  unfold headB; rw [h1, h2]
theorem topB_mk {l : List GFun} (h1 : 1 ≤ l.length) (h2 : l.length ≤ 60) (h : (l[0]'(by omega)).free = 0) : topB l :=
  ⟨⟨h1, h2⟩, _, List.getElem?_eq_getElem (by omega), h⟩
theorem topB_not {l : List GFun} (h1 : 1 ≤ l.length) (h : ¬ (l[0]'(by omega)).free = 0) : ¬ topB l := by
  rintro ⟨_, f, e, hf⟩
  rw [List.getElem?_eq_getElem (by omega)] at e
  have e2 := Option.some.inj e
  rw [e2] at h
  exact h hf

set_option maxRecDepth 20000 in
theorem specFunsOk (l : List GFun) (A : Option Addr) (c : Nat) (w : World) (hs : Sl w (Lt w.heap.size) 2 A c (l.map GFun.toD)) :
    Calls Try.prog 95 #[.slice A l.length c] w fun e w' => e = .returned (.bool (funsB l)) ∧ Below w.heap.size w w' := by
  have hlen : l.length ≤ 9223372036854775807 := by simpa using hs.len
  have S0 := Lib.hid hs
  clear hs
  by_cases htop : 1 ≤ l.length ∧ l.length ≤ 60
  rotate_left
  · have HF := Lib.hid (funsB_top (l := l) (fun h => htop h.1))
    go_enter Try.func95, Try.ntmps95
    go_wp2_with fail
    refine (specIn _ _ _ _).mono ?_
    rintro e w1 ⟨rfl, rfl⟩
    rw [inB_false (by omega)]
    go_wp2_with fail
    go_ret
    exact ⟨ret_bool HF.out.symm, Below.refl _ _⟩
  obtain ⟨h1, h60⟩ := htop
  obtain ⟨b0, off0, B1, d1, eA0, hSb0, g0, _, _⟩ := GFun.elem S0.out 0 (by omega)
  have g0' : w.cell? ⟨b0, off0, none⟩ = some (.int .i64 (l[0]'(by omega)).free) := by simpa using g0
  clear g0
  by_cases hf0 : (l[0]'(by omega)).free = 0
  rotate_left
  · have HF := Lib.hid (funsB_top (topB_not h1 hf0))
    have hne : ((l[0]'(by omega)).free != 0) = true := by simpa using hf0
    subst eA0
    clear hf0
    go_enter Try.func95, Try.ntmps95
    go_wp2_with fail
    refine (specIn _ _ _ _).mono ?_
    rintro e w1 ⟨rfl, rfl⟩
    rw [inB_true (by omega)]
    go_wp2_with fail
    go_ret
    exact ⟨ret_bool HF.out.symm, Below.refl _ _⟩
  have HTOP := Lib.hid (topB_mk h1 h60 hf0)
  rw [hf0] at g0'
  clear hf0
  subst eA0
  go_enter Try.func95, Try.ntmps95
  go_wp2_with fail
  refine (specIn _ _ _ _).mono ?_
  rintro e w1 ⟨rfl, rfl⟩
  rw [inB_true (by omega)]
  go_wp2_with fail
  clear g0'
  go_loopw [3] (fun i wr => ∃ (j : Nat), j ≤ l.length ∧ i = .int .i64 j ∧ Hid (AllHead l j ∧ AllTail l j) ∧ Below w.heap.size w wr) (fun i _ => l.length - (intOf i).toNat)
  case atStart => exact ⟨0, by omega, by go_num, Lib.hid ⟨fun _ _ h => by omega, fun _ _ h => by omega⟩, Below.refl _ _⟩
  case round =>
    obtain ⟨j, hj, rfl, HT, hbl⟩ := hrel
    have hsz := hbl.size
    by_cases hlt : j < l.length
    · obtain ⟨b, off, A1, c1, eA, hSb, g0, g1, hat⟩ := GFun.elem (S0.out.below hbl (Nat.le_refl _)) j hlt
      obtain ⟨rfl, rfl⟩ : b0 = b ∧ off0 = off := by simpa using eA
      clear eA
      have S1 := Lib.hid hat.2
      have hcl : (l[j]).list.length ≤ 9223372036854775807 := by simpa using hat.2.len
      clear hat
      by_cases hf1 : 0 ≤ (l[j]).free ∧ (l[j]).free ≤ 20
      rotate_left
      · have HF := Lib.hid (funsB_head j hlt (by rw [headB_eq (inB_false hf1) rfl]; rfl))
        go_wp2_with fail
        refine (specIn _ _ _ _).mono ?_
        rintro e w2 ⟨rfl, rfl⟩
        rw [inB_false hf1]
        clear hf1
        go_wp2_with fail
        go_ret
        exact ⟨ret_bool HF.out.symm, hbl⟩
      have e1 := inB_true hf1
      obtain ⟨hf1a, hf1b⟩ := hf1
      by_cases hf2 : 1 ≤ ((l[j]).list.length : Int) ∧ ((l[j]).list.length : Int) ≤ 3000
      rotate_left
      · have HF := Lib.hid (funsB_head j hlt (by rw [headB_eq e1 (inB_false hf2)]; rfl))
        have E1 := Lib.hid e1
        clear e1
        go_wp2_with fail
        refine (specIn _ _ _ _).mono ?_
        rintro e w2 ⟨rfl, rfl⟩
        rw [E1.out]
        go_wp2_with fail
        refine (specIn _ _ _ _).mono ?_
        rintro e w2 ⟨rfl, rfl⟩
        rw [inB_false hf2]
        clear hf2
        go_wp2_with fail
        go_ret
        exact ⟨ret_bool HF.out.symm, hbl⟩
      have e2 := inB_true hf2
      have HH := Lib.hid (show headB l[j] = true by rw [headB_eq e1 e2]; rfl)
      have E1 := Lib.hid e1
      have E2 := Lib.hid e2
      clear e1 e2
      obtain ⟨hf2a, hf2b⟩ := hf2
      go_wp2_with fail
      refine (specIn _ _ _ _).mono ?_
      rintro e w2 ⟨rfl, rfl⟩
      rw [E1.out]
      go_wp2_with fail
      refine (specIn _ _ _ _).mono ?_
      rintro e w2 ⟨rfl, rfl⟩
      rw [E2.out]
      go_wp2_with fail
      go_loopw [5] (fun i wr2 => ∃ (k : Nat), k ≤ (l[j]).list.length ∧ i = .int .i64 k ∧ Hid (OpsTo l j l[j] k) ∧ Below w.heap.size w wr2) (fun i _ => (l[j]).list.length - (intOf i).toNat)
      case atStart => exact ⟨0, by omega, by go_num, Lib.hid (fun _ _ h => by omega), hbl⟩
      case round =>
        obtain ⟨k, hk, rfl, HO, hbk⟩ := hrel
        have hszk := hbk.size
        obtain ⟨b', off', A1', c1', eA, hSb', q0, q1, hat'⟩ := GFun.elem (S0.out.below hbk (Nat.le_refl _)) j hlt
        obtain ⟨rfl, rfl⟩ : b0 = b' ∧ off0 = off' := by simpa using eA
        clear eA
        by_cases hkt : k < (l[j]).list.length
        · obtain ⟨b2, off2, rfl, hSb2, p0, p1, p2, hat2⟩ := GOp.elem hat'.2 k hkt
          clear hat' hat2
          go_wp2_with fail
          refine (specOp l _ c j hlt _ _ _ _ hf1a hf1b (S0.out.below hbk hszk)).mono ?_
          rintro e w3 ⟨rfl, hb3⟩
          have B3 := Lib.hid (hbk.trans (hb3.mono hszk))
          clear hb3
          cases hop : opB l j l[j] (l[j]).list[k] with
          | false =>
            have HF := Lib.hid (funsB_tail j hlt (tailB_op k hkt hop))
            have hop' : decide (opP (l[j]).free (l[j]).list.length l.length (freeAt l) j (l[j]).list[k].code (l[j]).list[k].n (l[j]).list[k].m) = false := hop
            rw [hop']
            clear hop hop'
            go_wp2_with fail
            go_ret
            exact ⟨ret_bool HF.out.symm, B3.out⟩
          | true =>
            have HO2 := Lib.hid (HO.out.succ hkt hop)
            have hop' : decide (opP (l[j]).free (l[j]).list.length l.length (freeAt l) j (l[j]).list[k].code (l[j]).list[k].n (l[j]).list[k].m) = true := hop
            rw [hop']
            clear hop hop'
            go_wp2_with fail
            go_roundw
            case rel => exact ⟨k + 1, by omega, by go_num, HO2, B3.out⟩
            case measure => simp [intOf]; omega
        · have hkl : k = (l[j]).list.length := by omega
          have HO1 : OpsTo l j l[j] (l[j]).list.length := hkl ▸ HO.out
          have HO2 := Lib.hid (tailB_ops HO1)
          clear HO1 hkl
          obtain ⟨n, hn⟩ : ∃ n, (l[j]).list.length = n + 1 := ⟨(l[j]).list.length - 1, by omega⟩
          have hn' : n < (l[j]).list.length := by omega
          obtain ⟨b2, off2, rfl, hSb2, p0, p1, p2, hat2⟩ := GOp.elem hat'.2 n hn'
          clear hat' hat2 p1 p2
          have hL := HO2.out.trans (lastB_at n hn)
          have HO := Lib.hid trivial
          generalize (l[j]).list[n].code = cd at p0 hL
          by_cases hz : cd = 7 ∨ cd = 19 ∨ cd = 21
          · have HT2 := Lib.hid (show AllHead l (j + 1) ∧ AllTail l (j + 1) from ⟨HT.out.1.succ hlt HH.out, HT.out.2.succ hlt (hL.trans (decide_eq_true hz))⟩)
            clear hL HO2
            rcases hz with rfl | rfl | rfl
            all_goals
              go_wp2_with fail
              go_roundw
              case rel => exact ⟨j + 1, by omega, by go_num, HT2, hbk⟩
              case measure => simp [intOf]; omega
          · have HF := Lib.hid (funsB_tail j hlt (hL.trans (decide_eq_false hz)))
            have z1 : (cd != 7) = true := by simp; omega
            have z2 : (cd != 19) = true := by simp; omega
            have z3 : (cd != 21) = true := by simp; omega
            clear hL HO2 hz
            go_wp2_with fail
            go_ret
            exact ⟨ret_bool HF.out.symm, hbk⟩
    · have hjl : j = l.length := by omega
      have HF := Lib.hid (funsB_true HTOP.out (hjl ▸ HT.out.1) (hjl ▸ HT.out.2))
      clear hjl
      go_wp2_with fail
      go_ret
      exact ⟨ret_bool HF.out.symm, hbl⟩

set_option maxRecDepth 20000 in
theorem implFunsOk (l : List GFun) (A : Option Addr) (c : Nat) (w : World) (hs : Sl w (Lt w.heap.size) 2 A c (l.map GFun.toD)) :
    Calls Try.prog 97 #[.slice A l.length c] w fun e w' => e = .returned (.bool (funsB l)) ∧ Below w.heap.size w w' := by
  have hlen : l.length ≤ 9223372036854775807 := by simpa using hs.len
  have S0 := Lib.hid hs
  clear hs
  by_cases htop : 1 ≤ l.length ∧ l.length ≤ 60
  rotate_left
  · have HF := Lib.hid (funsB_top (l := l) (fun h => htop h.1))
    go_enter Try.func97, Try.ntmps97
    go_wp2_with fail
    refine (implWithin _ _ _ _).mono ?_
    rintro e w1 ⟨rfl, rfl⟩
    rw [inB_false (by omega)]
    go_wp2_with fail
    go_ret
    exact ⟨ret_bool HF.out.symm, Below.refl _ _⟩
  obtain ⟨h1, h60⟩ := htop
  obtain ⟨b0, off0, B1, d1, eA0, hSb0, g0, _, _⟩ := GFun.elem S0.out 0 (by omega)
  have g0' : w.cell? ⟨b0, off0, none⟩ = some (.int .i64 (l[0]'(by omega)).free) := by simpa using g0
  clear g0
  by_cases hf0 : (l[0]'(by omega)).free = 0
  rotate_left
  · have HF := Lib.hid (funsB_top (topB_not h1 hf0))
    have hne : ((l[0]'(by omega)).free != 0) = true := by simpa using hf0
    subst eA0
    clear hf0
    go_enter Try.func97, Try.ntmps97
    go_wp2_with fail
    refine (implWithin _ _ _ _).mono ?_
    rintro e w1 ⟨rfl, rfl⟩
    rw [inB_true (by omega)]
    go_wp2_with fail
    go_ret
    exact ⟨ret_bool HF.out.symm, Below.refl _ _⟩
  have HTOP := Lib.hid (topB_mk h1 h60 hf0)
  rw [hf0] at g0'
  clear hf0
  subst eA0
  go_enter Try.func97, Try.ntmps97
  go_wp2_with fail
  refine (implWithin _ _ _ _).mono ?_
  rintro e w1 ⟨rfl, rfl⟩
  rw [inB_true (by omega)]
  go_wp2_with fail
  clear g0'
  go_loopw [23] (fun i wr => ∃ (j : Nat), j ≤ l.length ∧ i = .int .i64 j ∧ Hid (AllHead l j) ∧ Below w.heap.size w wr) (fun i _ => l.length - (intOf i).toNat)
  case atStart => exact ⟨0, by omega, by go_num, Lib.hid (fun _ _ h => by omega), Below.refl _ _⟩
  case round =>
    obtain ⟨j, hj, rfl, HT, hbl⟩ := hrel
    have hsz := hbl.size
    by_cases hlt : j < l.length
    · obtain ⟨b, off, A1, c1, eA, hSb, g0, g1, hat⟩ := GFun.elem (S0.out.below hbl (Nat.le_refl _)) j hlt
      obtain ⟨rfl, rfl⟩ : b0 = b ∧ off0 = off := by simpa using eA
      clear eA
      have hcl : (l[j]).list.length ≤ 9223372036854775807 := by simpa using hat.2.len
      clear hat
      by_cases hf1 : 0 ≤ (l[j]).free ∧ (l[j]).free ≤ 20
      rotate_left
      · have HF := Lib.hid (funsB_head j hlt (by rw [headB_eq (inB_false hf1) rfl]; rfl))
        go_wp2_with fail
        refine (implWithin _ _ _ _).mono ?_
        rintro e w2 ⟨rfl, rfl⟩
        rw [inB_false hf1]
        clear hf1
        go_wp2_with fail
        go_ret
        exact ⟨ret_bool HF.out.symm, hbl.alloc hsz _⟩
      have e1 := inB_true hf1
      obtain ⟨hf1a, hf1b⟩ := hf1
      by_cases hf2 : 1 ≤ ((l[j]).list.length : Int) ∧ ((l[j]).list.length : Int) ≤ 3000
      rotate_left
      · have HF := Lib.hid (funsB_head j hlt (by rw [headB_eq e1 (inB_false hf2)]; rfl))
        have E1 := Lib.hid e1
        clear e1
        go_wp2_with fail
        refine (implWithin _ _ _ _).mono ?_
        rintro e w2 ⟨rfl, rfl⟩
        rw [E1.out]
        go_wp2_with fail
        refine (implWithin _ _ _ _).mono ?_
        rintro e w2 ⟨rfl, rfl⟩
        rw [inB_false hf2]
        clear hf2
        go_wp2_with fail
        go_ret
        exact ⟨ret_bool HF.out.symm, hbl.alloc hsz _⟩
      have e2 := inB_true hf2
      have HH := Lib.hid (show headB l[j] = true by rw [headB_eq e1 e2]; rfl)
      have E1 := Lib.hid e1
      have E2 := Lib.hid e2
      have HT2 := Lib.hid (HT.out.succ hlt HH.out)
      clear e1 e2
      obtain ⟨hf2a, hf2b⟩ := hf2
      go_wp2_with fail
      refine (implWithin _ _ _ _).mono ?_
      rintro e w2 ⟨rfl, rfl⟩
      rw [E1.out]
      go_wp2_with fail
      refine (implWithin _ _ _ _).mono ?_
      rintro e w2 ⟨rfl, rfl⟩
      rw [E2.out]
      go_wp2_with fail
      go_roundw
      case rel => exact ⟨j + 1, by omega, by go_num, HT2, hbl.alloc hsz _⟩
      case measure => simp [intOf]; omega
    · have hjl : j = l.length := by omega
      have HHEAD := Lib.hid (hjl ▸ HT.out)
      clear hjl
      go_wp2_with fail
      go_loopw [41] (fun i wr => ∃ (j : Nat), j ≤ l.length ∧ i = .int .i64 j ∧ Hid (AllTail l j) ∧ Below w.heap.size w wr) (fun i _ => l.length - (intOf i).toNat)
      case atStart => exact ⟨0, by omega, by go_num, Lib.hid (fun _ _ h => by omega), hbl⟩
      case round =>
        clear hbl hsz
        obtain ⟨j, hj, rfl, HT, hbl⟩ := hrel
        have hsz := hbl.size
        by_cases hlt : j < l.length
        · obtain ⟨b, off, A1, c1, eA, hSb, g0, g1, hat⟩ := GFun.elem (S0.out.below hbl (Nat.le_refl _)) j hlt
          obtain ⟨rfl, rfl⟩ : b0 = b ∧ off0 = off := by simpa using eA
          clear eA
          have S1 := Lib.hid hat.2
          have hcl : (l[j]).list.length ≤ 9223372036854775807 := by simpa using hat.2.len
          have hh := headB_in (HHEAD.out j hlt hlt)
          obtain ⟨hf1a, hf1b, hf2a, hf2b⟩ := hh
          clear hat
          have E1 := Lib.hid (show Below w.heap.size w (wr.alloc (.cells #[.int .i64 (l[j]).free, .slice A1 (l[j]).list.length c1] 141)) from hbl.alloc hsz _)
          have R1 := Lib.hid (Row.new' wr 141 #[.int .i64 (l[j]).free, .slice A1 (l[j]).list.length c1] (g := wr.heap.size) rfl)
          go_wp2_with fail
          generalize hg : wr.heap.size = g at *
          go_loopw [49] (fun i wr2 => ∃ (k : Nat), k ≤ (l[j]).list.length ∧ i = .int .i64 k ∧ Hid (OpsTo l j l[j] k) ∧ Hid (Row wr2 g 141 #[.int .i64 (l[j]).free, .slice A1 (l[j]).list.length c1]) ∧ Below w.heap.size w wr2) (fun i _ => (l[j]).list.length - (intOf i).toNat)
          case atStart => exact ⟨0, by omega, by go_num, Lib.hid (fun _ _ h => by omega), R1, E1.out⟩
          case round =>
            obtain ⟨k, hk, rfl, HO, HR, hbk⟩ := hrel
            have hszk := hbk.size
            have hR := fun i => HR.out.cell i
            have hRl := HR.out.lt
            have S2 := S1.out.keep (w' := wr) (S' := Lt w.heap.size) (fun q hq => ⟨hq, (hbk.block q hq).trans (hbl.block q hq).symm⟩)
            by_cases hkt : k < (l[j]).list.length
            · obtain ⟨b2, off2, rfl, hSb2, p0, p1, p2, hat2⟩ := GOp.elem S2 k hkt
              clear hat2 S2
              have E2 := Lib.hid (show Below w.heap.size w (wr.alloc (.cells #[.int .i64 (l[j]).list[k].code, .int .i64 (l[j]).list[k].n, .int .i64 (l[j]).list[k].m] 153)) from hbk.alloc hszk _)
              have R2 := Lib.hid (HR.out.alloc (.cells #[.int .i64 (l[j]).list[k].code, .int .i64 (l[j]).list[k].n, .int .i64 (l[j]).list[k].m] 153))
              go_wp2_with fail
              refine (implOp l _ c j hlt _ _ _ _ hf1a hf1b (S0.out.below E2.out E2.out.size)).mono ?_
              rintro e w3 ⟨rfl, hb3⟩
              have B3 := Lib.hid (E2.out.trans (hb3.mono E2.out.size))
              have R3 := Lib.hid (R2.out.below hb3 R2.out.lt)
              clear hb3
              cases hop : opB l j l[j] (l[j]).list[k] with
              | false =>
                have HF := Lib.hid (funsB_tail j hlt (tailB_op k hkt hop))
                have hop' : decide (opP (l[j]).free (l[j]).list.length l.length (freeAt l) j (l[j]).list[k].code (l[j]).list[k].n (l[j]).list[k].m) = false := hop
                rw [hop']
                clear hop hop'
                go_wp2_with fail
                go_ret
                exact ⟨ret_bool HF.out.symm, B3.out⟩
              | true =>
                have HO2 := Lib.hid (HO.out.succ hkt hop)
                have hop' : decide (opP (l[j]).free (l[j]).list.length l.length (freeAt l) j (l[j]).list[k].code (l[j]).list[k].n (l[j]).list[k].m) = true := hop
                rw [hop']
                clear hop hop'
                go_wp2_with fail
                go_roundw
                case rel => exact ⟨k + 1, by omega, by go_num, HO2, R3, B3.out⟩
                case measure => simp [intOf]; omega
            · have hkl : k = (l[j]).list.length := by omega
              have HO1 : OpsTo l j l[j] (l[j]).list.length := hkl ▸ HO.out
              have HO2 := Lib.hid (tailB_ops HO1)
              clear HO1 hkl
              obtain ⟨n, hn⟩ : ∃ n, (l[j]).list.length = n + 1 := ⟨(l[j]).list.length - 1, by omega⟩
              have hn' : n < (l[j]).list.length := by omega
              obtain ⟨b2, off2, rfl, hSb2, p0, p1, p2, hat2⟩ := GOp.elem S2 n hn'
              clear hat2 p1 p2 S2
              have hL := HO2.out.trans (lastB_at n hn)
              have HO := Lib.hid trivial
              generalize (l[j]).list[n].code = cd at p0 hL
              by_cases hz : cd = 7 ∨ cd = 19 ∨ cd = 21
              · have HT2 := Lib.hid (HT.out.succ hlt (hL.trans (decide_eq_true hz)))
                clear hL HO2
                rcases hz with rfl | rfl | rfl
                all_goals
                  go_wp2_with fail
                  go_roundw
                  case rel => exact ⟨j + 1, by omega, by go_num, HT2, hbk⟩
                  case measure => simp [intOf]; omega
              · have HF := Lib.hid (funsB_tail j hlt (hL.trans (decide_eq_false hz)))
                have z1 : (cd != 7) = true := by simp; omega
                have z2 : (cd != 19) = true := by simp; omega
                have z3 : (cd != 21) = true := by simp; omega
                clear hL HO2 hz
                go_wp2_with fail
                go_ret
                exact ⟨ret_bool HF.out.symm, hbk⟩
        · have hjl : j = l.length := by omega
          have HF := Lib.hid (funsB_true HTOP.out HHEAD.out (hjl ▸ HT.out))
          clear hjl
          go_wp2_with fail
          go_ret
          exact ⟨ret_bool HF.out.symm, hbl⟩
end Go.Proofs.Ytjcgfbjdailgoaa
