/- Texts of the claim LMostGeneral in one: UniJ. Conditions: none but bounds on sizes. -/
import Derived.Test.YtghldoiblbcacaaZLMostGeneral8
import Derived.Test.YtghldoiblbcacaaZLMostGeneral9
import Derived.Deep.CutRange
import Derived.Deep.RegionHeld3
/- The walk of unify of the program: it is a run of UniR. Conditions: vars are 0 to 4, texts are short. -/
namespace Go.Proofs.Ytghldoiblbcacaa
open Go.RowKit
set_option linter.unusedVariables false
set_option linter.unusedSimpArgs false
set_option maxHeartbeats 40000000

/-- whatever Unify comes to, what it makes of t is not too great -/
def BndI (l : List GBind) (t : GTy) : Prop := ∀ l', Uni V5 l' → FewL l' → Resp (bindOf l') l → (t.sub (bindOf l')).nodes ≤ 40000
theorem BndI.small {l : List GBind} {t : GTy} (h : t.nodes ≤ 200) : BndI l t := fun l' _ hf _ => by have := hf.sub_nodes t; omega
theorem BndI.kid {l lj : List GBind} {t x : GTy} (h : BndI l t) (ho : t.okS = true) (hr : ∀ f, Resp f lj → Resp f l) (h2 : ¬ (t.sub (bindOf l)).op = 2) (hx : x ∈ (t.sub (bindOf l)).kids) : BndI lj x := fun l' hu hf hl => by
  have h1 := h l' hu hf (hr _ hl)
  have h3 := kid_sub_nodes (f := bindOf l') h2 hx
  rw [resp_sub (hr _ hl) t ho] at h3
  omega
def ToUniI (l : List GBind) (a b : GTy) (w : World) (e : Ending) (w' : World) : Prop :=
  ∃ A' c' lr r, e = .returned (.tuple #[.slice A' (List.length lr) c', .bool (Option.isSome r)]) ∧ UniR l a b r ∧ Below w.heap.size w w' ∧ ∀ l', r = some l' → lr = l' ∧ FewL l' ∧ Sl w' (Lt w'.heap.size) 5 A' c' (l'.map GBind.toD)

theorem row_al1 {w0 w3 : World} {T : TypeId} {cs : Array Value} (h : Below (w0.alloc (.cells cs T)).heap.size (w0.alloc (.cells cs T)) w3) : Row w3 w0.heap.size T cs := (Row.new w0 T cs).below h (Row.new w0 T cs).lt
theorem row_al2a {w0 w3 : World} {T : TypeId} {cs : Array Value} {o : Obj} (h : Below ((w0.alloc (.cells cs T)).alloc o).heap.size ((w0.alloc (.cells cs T)).alloc o) w3) : Row w3 w0.heap.size T cs := ((Row.new w0 T cs).alloc o).below h ((Row.new w0 T cs).alloc o).lt
theorem row_al2b {w0 w3 : World} {T : TypeId} {cs : Array Value} {o : Obj} (h : Below ((w0.alloc o).alloc (.cells cs T)).heap.size ((w0.alloc o).alloc (.cells cs T)) w3) : Row w3 (w0.heap.size + 1) T cs := by
  have e : (w0.alloc o).heap.size = w0.heap.size + 1 := by simp
  rw [← e]
  exact (Row.new (w0.alloc o) T cs).below h (Row.new (w0.alloc o) T cs).lt
theorem row_ad1 {w0 w3 : World} {T : TypeId} {cs : Array Value} (h : Below (w0.alloc (.cells cs T)).drew.heap.size (w0.alloc (.cells cs T)).drew w3) : Row w3 w0.heap.size T cs := row_al1 ((Below.refl _ _).drew.trans h)
theorem row_ad2a {w0 w3 : World} {T : TypeId} {cs : Array Value} {o : Obj} (h : Below ((w0.alloc (.cells cs T)).alloc o).drew.heap.size ((w0.alloc (.cells cs T)).alloc o).drew w3) : Row w3 w0.heap.size T cs := row_al2a ((Below.refl _ _).drew.trans h)
theorem row_ad2b {w0 w3 : World} {T : TypeId} {cs : Array Value} {o : Obj} (h : Below ((w0.alloc o).alloc (.cells cs T)).drew.heap.size ((w0.alloc o).alloc (.cells cs T)).drew w3) : Row w3 (w0.heap.size + 1) T cs := row_al2b ((Below.refl _ _).drew.trans h)
theorem below_any2 {w0 W w3 : World} (hW : Below w0.heap.size w0 W) (h : Below W.heap.size W w3) : Below w0.heap.size w0 w3 := hW.trans (h.mono hW.size)

theorem uni_lessI {a b m x k : Nat} (h : a < b) (hb : b ≤ 5) (hm : m ≤ 40000) (hk : (5 - a) * 50000 + x < k + 1) : (5 - b) * 50000 + m < k := uni_less h hb (n := 200) (Nat.le_trans hm (by decide)) (by omega) hk
theorem put_fewI {l : List GBind} {n : Int} {t : GTy} (hf : FewL l) (ht : t.tx = true) (h : ((putB n t l).any fun z => decide (200 < z.ty.nodes)) = false) : FewL (putB n t l) := by
  rw [List.any_eq_false] at h
  intro x hx
  refine ⟨by have := h x hx; simp at this; omega, ?_⟩
  rcases List.mem_append.1 hx with hx | hx
  · obtain ⟨b, hb, rfl⟩ := List.mem_map.1 hx
    exact GTy.tx_sub (fun m u hu => by rw [(oneF_some hu).2]; exact ht) _ (hf b hb).2
  · rw [List.mem_singleton] at hx; subst hx; exact ht
theorem okS_int {t : GTy} (h : t.okS = true) (h1 : t.op = 1) : t.s = ⟨#[]⟩ ∧ t.kids = [] := by
  cases t with
  | mk op n s kids =>
    simp only [GTy.op] at h1
    subst h1
    rw [GTy.okS] at h
    have h2 := (Bool.and_eq_true _ _ ▸ h).1
    unfold tyOk1 at h2
    rw [if_pos rfl] at h2
    simp only [Bool.and_eq_true, beq_iff_eq] at h2
    exact ⟨empty_of h2.2.1, List.eq_nil_of_length_eq_zero h2.2.2⟩

set_option maxRecDepth 20000 in
theorem implUni (k : Nat) : ∀ (l : List GBind) (A : Option Addr) (c : Nat) (a b : GTy) (Aa : Option Addr) (ca : Nat) (Ab : Option Addr) (cb : Nat) (w : World), (5 - l.length) * 50000 + (a.sub (bindOf l)).nodes < k →
    Uni V5 l → FewL l → Good V5 a → Good V5 b → a.tx = true → b.tx = true → BndI l a → BndI l b → Sl w (Lt w.heap.size) 5 A c (l.map GBind.toD) → GTy.At w (Lt w.heap.size) Aa ca a → GTy.At w (Lt w.heap.size) Ab cb b →
    Calls Try.prog 41 #[.slice A l.length c, .agg #[.int .i64 a.op, .int .i64 a.n, .string a.s, .slice Aa a.kids.length ca], .agg #[.int .i64 b.op, .int .i64 b.n, .string b.s, .slice Ab b.kids.length cb]] w (ToUniI l a b w) := by
  induction k with
  | zero => intros; omega
  | succ k ih =>
    intro l A c a b Aa ca Ab cb w hk hu hf ga gb txa txb na nb hg hata hatb
    have hlen : l.length ≤ 5 := hu.few
    have IH := Lib.hid ih
    have HU := Lib.hid hu
    have HF := Lib.hid hf
    have GA := Lib.hid ga
    have GB := Lib.hid gb
    have TXA := Lib.hid txa
    have TXB := Lib.hid txb
    have NA := Lib.hid na
    have NB := Lib.hid nb
    have HK := Lib.hid hk
    have G0 := Lib.hid hg
    have TA := Lib.hid hata
    have TB := Lib.hid hatb
    have hxn := na l hu hf hu.resp
    have hyn := nb l hu hf hu.resp
    have han := Nat.le_trans (nodes_sub (bindOf l) a) hxn
    have hbn := Nat.le_trans (nodes_sub (bindOf l) b) hyn
    have hab := GTy.tx_bulk a txa
    have hbb := GTy.tx_bulk b txb
    have hbl := hf.bulkL hlen
    clear ih hu hf ga gb txa txb na nb hk hg hata hatb
    obtain ⟨x, ex⟩ : ∃ x, x = a.sub (bindOf l) := ⟨_, rfl⟩
    obtain ⟨y, ey⟩ : ∃ y, y = b.sub (bindOf l) := ⟨_, rfl⟩
    rw [← ex] at hxn
    rw [← ey] at hyn
    have HC1 := Lib.hid (fun (W : World) (hb : Below w.heap.size w W) => show Calls Try.prog 12 #[.slice A l.length c, .agg #[.int .i64 a.op, .int .i64 a.n, .string a.s, .slice Aa a.kids.length ca]] W (ToTy x W) by
      rw [ex]
      exact implApply (a.bulk + 1) l A c a Aa ca W (by omega) (by omega) (by omega) (G0.out.below hb hb.size) (TA.out.below hb hb.size))
    have HC2 := Lib.hid (fun (W : World) (hb : Below w.heap.size w W) => show Calls Try.prog 12 #[.slice A l.length c, .agg #[.int .i64 b.op, .int .i64 b.n, .string b.s, .slice Ab b.kids.length cb]] W (ToTy y W) by
      rw [ey]
      exact implApply (b.bulk + 1) l A c b Ab cb W (by omega) (by omega) (by omega) (G0.out.below hb hb.size) (TB.out.below hb hb.size))
    have EX := Lib.hid ex
    have EY := Lib.hid ey
    clear ex ey hab hbb han hbn
    obtain ⟨w0, e0⟩ : ∃ w0, w0 = (w.alloc (.cells #[.int .i64 a.op, .int .i64 a.n, .string a.s, .slice Aa a.kids.length ca] 27)).alloc (.cells #[.int .i64 b.op, .int .i64 b.n, .string b.s, .slice Ab b.kids.length cb] 27) := ⟨_, rfl⟩
    have B0 := Lib.hid (show Below w.heap.size w w0 by rw [e0]; exact ((Below.refl _ _).alloc (Nat.le_refl _) _).alloc (by simp) _)
    have RA0 := Lib.hid (show Row w0 w.heap.size 27 #[.int .i64 a.op, .int .i64 a.n, .string a.s, .slice Aa a.kids.length ca] by rw [e0]; exact (Row.new' _ _ _ rfl).alloc _)
    have RB0 := Lib.hid (show Row w0 (w.heap.size + 1) 27 #[.int .i64 b.op, .int .i64 b.n, .string b.s, .slice Ab b.kids.length cb] by rw [e0]; exact Row.new' _ _ _ (by simp))
    have HS0 := Lib.hid (show w0.heap.size = w.heap.size + 2 by rw [e0]; simp)
    have EQ := Lib.hid e0
    have hca0 := fun i => RA0.out.cell i
    have hcb0 := fun i => RB0.out.cell i
    have hla0 := RA0.out.lt
    have hlb0 := RB0.out.lt
    clear e0
    go_enter Try.func41, Try.ntmps41
    go_wp2_with fail
    rw [← EQ.out]
    have D0 := Lib.hid B0.out.drew
    have D1 := Lib.hid (fun o => (B0.out.alloc B0.out.size o).drew)
    have D2 := Lib.hid (fun o o' => ((B0.out.alloc B0.out.size o).alloc (B0.out.alloc B0.out.size o).size o').drew)
    have F0 := Lib.hid (Below.refl w0.heap.size w0).drew
    have G1 := Lib.hid (fun o => (Below.refl w0.heap.size w0).alloc (Nat.le_refl _) o)
    have F1 := Lib.hid (fun o => (G1.out o).drew)
    have F2 := Lib.hid (fun o o' => ((G1.out o).alloc (G1.out o).size o').drew)
    go_cut [8, 9] from 13 to 18 (fun p q wc => ∃ (gp gq : Nat) (A3 : Option Addr) (c3 : Nat) (A4 : Option Addr) (c4 : Nat), p = .pointer (some ⟨gp, 0, none⟩) ∧ q = .pointer (some ⟨gq, 0, none⟩) ∧ Row wc gp 27 #[.int .i64 x.op, .int .i64 x.n, .string x.s, .slice A3 x.kids.length c3] ∧ Row wc gq 27 #[.int .i64 y.op, .int .i64 y.n, .string y.s, .slice A4 y.kids.length c4] ∧ Below w.heap.size w wc ∧ GTy.At wc (Lt wc.heap.size) A3 c3 x ∧ GTy.At wc (Lt wc.heap.size) A4 c4 y)
    case first =>
      go_region_law (first
        | (go_simp
           go_at_call 12
           with_reducible refine (HC1.out _ (by first | with_reducible exact D0.out | with_reducible exact D1.out _ | with_reducible exact D2.out _ _)).mono ?_
           rintro e w3 ⟨A3, c3, rfl, how3, hb3⟩
           have B03 := Lib.hid (show Below w0.heap.size w0 w3 from by first | with_reducible exact below_any2 F0.out hb3 | with_reducible exact below_any2 (F1.out _) hb3 | with_reducible exact below_any2 (F2.out _ _) hb3)
           have B3 := Lib.hid (B0.out.trans (B03.out.mono B0.out.size))
           have D31 := Lib.hid (fun o => B3.out.alloc B3.out.size o)
           have D32 := Lib.hid (fun o o' => (D31.out o).alloc (D31.out o).size o')
           have F31 := Lib.hid (fun o => (Below.refl w3.heap.size w3).alloc (Nat.le_refl _) o)
           have F32 := Lib.hid (fun o o' => (F31.out o).alloc (F31.out o).size o')
           have RA3 := Lib.hid (RA0.out.below B03.out RA0.out.lt)
           have RB3 := Lib.hid (RB0.out.below B03.out RB0.out.lt)
           have hca3 := fun i => RA3.out.cell i
           have hcb3 := fun i => RB3.out.cell i
           have hla3 := RA3.out.lt
           have hlb3 := RB3.out.lt
           first
             | (have P1 : Hid (Row w3 w0.heap.size 27 #[.int .i64 0, .int .i64 0, .string ⟨#[]⟩, .slice none 0 0]) := Lib.hid (by with_reducible exact row_ad2a hb3)
                have P2 : Hid (Row w3 (w0.heap.size + 1) 27 #[.int .i64 0, .int .i64 0, .string ⟨#[]⟩, .slice none 0 0]) := Lib.hid (by with_reducible exact row_ad2b hb3)
                have hpl1 := P1.out.lt
                have hpl2 := P2.out.lt
                have hpn1 := Nat.ne_of_gt hpl1
                have hpn2 := Nat.ne_of_gt hpl2
                have hpm1 := Nat.ne_of_lt hpl1
                have hpm2 := Nat.ne_of_lt hpl2
                have X3 := Lib.hid (how3.at.keep (w' := w3) (S' := Btw (w0.heap.size + 2) w3.heap.size) fun b hb => ⟨⟨Nat.le_trans (Nat.le_of_eq (lo_ad2 w0 _ _).symm) hb.1, hb.2⟩, rfl⟩))
             | (have P1 : Hid (Row w3 w0.heap.size 27 #[.int .i64 0, .int .i64 0, .string ⟨#[]⟩, .slice none 0 0]) := Lib.hid (by with_reducible exact row_ad1 hb3)
                have hpl1 := P1.out.lt
                have hpn1 := Nat.ne_of_gt hpl1
                have hpm1 := Nat.ne_of_lt hpl1
                have X3 := Lib.hid (how3.at.keep (w' := w3) (S' := Btw (w0.heap.size + 1) w3.heap.size) fun b hb => ⟨⟨Nat.le_trans (Nat.le_of_eq (lo_ad1 w0 _).symm) hb.1, hb.2⟩, rfl⟩))
             | (have X3 := Lib.hid (how3.at.keep (w' := w3) (S' := Btw w0.heap.size w3.heap.size) fun b hb => ⟨hb, rfl⟩)))
        | (go_simp
           go_at_call 12
           with_reducible refine (HC2.out _ (by first | with_reducible exact B3.out | with_reducible exact D31.out _ | with_reducible exact D32.out _ _)).mono ?_
           rintro e w4 ⟨A4, c4, rfl, how4, hb4⟩
           have B34 := Lib.hid (show Below w3.heap.size w3 w4 from by first | with_reducible exact hb4 | with_reducible exact below_any2 (F31.out _) hb4 | with_reducible exact below_any2 (F32.out _ _) hb4)
           have RA4 := Lib.hid (RA3.out.below B34.out RA3.out.lt)
           have RB4 := Lib.hid (RB3.out.below B34.out RB3.out.lt)
           have hca4 := fun i => RA4.out.cell i
           have hcb4 := fun i => RB4.out.cell i
           have hla4 := RA4.out.lt
           have hlb4 := RB4.out.lt
           have hs03 := B03.out.size
           have hs34 := B34.out.size
           first
             | (have P1 := Lib.hid (P1.out.below B34.out P1.out.lt); have P2 := Lib.hid (P2.out.below B34.out P2.out.lt); have hp1 := fun i => P1.out.cell i; have hp2 := fun i => P2.out.cell i; have hf1 := fun i => P1.out.frozen i; have hf2 := fun i => P2.out.frozen i; have hl1 := P1.out.lt; have hl2 := P2.out.lt)
             | (have P1 := Lib.hid (P1.out.below B34.out P1.out.lt); have hp1 := fun i => P1.out.cell i; have hf1 := fun i => P1.out.frozen i; have hl1 := P1.out.lt)
             | skip
           have X4 := Lib.hid (X3.out.keep (S' := Btw _ w3.heap.size) (w' := w4) fun b hb => ⟨hb, B34.out.block b hb.2⟩)
           have B4 := Lib.hid (B3.out.trans (B34.out.mono B3.out.size))
           first
             | (have Q1 : Hid (Row w4 w3.heap.size 27 #[.int .i64 0, .int .i64 0, .string ⟨#[]⟩, .slice none 0 0]) := Lib.hid (by with_reducible exact row_al2a hb4)
                have Q2 : Hid (Row w4 (w3.heap.size + 1) 27 #[.int .i64 0, .int .i64 0, .string ⟨#[]⟩, .slice none 0 0]) := Lib.hid (by with_reducible exact row_al2b hb4)
                have hq1 := fun i => Q1.out.cell i
                have hq2 := fun i => Q2.out.cell i
                have hg1 := fun i => Q1.out.frozen i
                have hg2 := fun i => Q2.out.frozen i
                have hm1 := Q1.out.lt
                have hm2 := Q2.out.lt
                have Y4 := Lib.hid (how4.at.keep (w' := w4) (S' := Btw (w3.heap.size + 2) w4.heap.size) fun b hb => ⟨⟨Nat.le_trans (Nat.le_of_eq (lo_al2 w3 _ _).symm) hb.1, hb.2⟩, rfl⟩))
             | (have Q1 : Hid (Row w4 w3.heap.size 27 #[.int .i64 0, .int .i64 0, .string ⟨#[]⟩, .slice none 0 0]) := Lib.hid (by with_reducible exact row_al1 hb4)
                have hq1 := fun i => Q1.out.cell i
                have hg1 := fun i => Q1.out.frozen i
                have hm1 := Q1.out.lt
                have Y4 := Lib.hid (how4.at.keep (w' := w4) (S' := Btw (w3.heap.size + 1) w4.heap.size) fun b hb => ⟨⟨Nat.le_trans (Nat.le_of_eq (size_alloc' w3 _).symm) hb.1, hb.2⟩, rfl⟩))
             | (have Y4 := Lib.hid (how4.at.keep (w' := w4) (S' := Btw w3.heap.size w4.heap.size) fun b hb => ⟨hb, rfl⟩))))
      all_goals
        have hpx1 := hs03
        have hpx2 := hs34
        go_wp2_with fail
        go_meet
        refine ⟨_, _, A3, c3, A4, c4, rfl, rfl, ?_⟩
        have hs0 := HS0.out
        first
          | (with_reducible exact fin_set P1.out P2.out (by omega) B4.out X4.out Y4.out (by omega) (by omega) (by omega) (by omega) (by omega) (by omega) (by omega) (by omega) rfl)
          | (with_reducible exact fin_set P2.out P1.out (by omega) B4.out X4.out Y4.out (by omega) (by omega) (by omega) (by omega) (by omega) (by omega) (by omega) (by omega) rfl)
          | (with_reducible exact fin_set P1.out Q1.out (by omega) B4.out X4.out Y4.out (by omega) (by omega) (by omega) (by omega) (by omega) (by omega) (by omega) (by omega) rfl)
          | (with_reducible exact fin_set Q1.out P1.out (by omega) B4.out X4.out Y4.out (by omega) (by omega) (by omega) (by omega) (by omega) (by omega) (by omega) (by omega) rfl)
          | (with_reducible exact fin_set Q1.out Q2.out (by omega) B4.out X4.out Y4.out (by omega) (by omega) (by omega) (by omega) (by omega) (by omega) (by omega) (by omega) rfl)
          | (with_reducible exact fin_set Q2.out Q1.out (by omega) B4.out X4.out Y4.out (by omega) (by omega) (by omega) (by omega) (by omega) (by omega) (by omega) (by omega) rfl)
          | (with_reducible exact fin_mix1 P1.out B4.out X4.out Y4.out (by omega) (by omega) (by omega) (by omega) (by omega) rfl rfl)
          | (with_reducible exact fin_mix2 P1.out B4.out X4.out Y4.out (by omega) (by omega) (by omega) (by omega) (by omega) rfl rfl)
          | (with_reducible exact fin_mix1 Q1.out B4.out X4.out Y4.out (by omega) (by omega) (by omega) (by omega) (by omega) rfl rfl)
          | (with_reducible exact fin_mix2 Q1.out B4.out X4.out Y4.out (by omega) (by omega) (by omega) (by omega) (by omega) rfl rfl)
          | (with_reducible exact fin_al1 B4.out X4.out Y4.out (by omega) (by omega) rfl rfl rfl)
          | (with_reducible exact fin_al2 B4.out X4.out Y4.out (by omega) (by omega) rfl rfl rfl)
    case rest =>
      obtain ⟨gp, gq, A3, c3, A4, c4, rfl, rfl, RX, RY, hbc, tx0, ty0⟩ := hcut
      have RX0 := Lib.hid RX
      have RY0 := Lib.hid RY
      have BC := Lib.hid hbc
      have TX := Lib.hid tx0
      have TY := Lib.hid ty0
      have SC := Lib.hid (G0.out.below hbc hbc.size)
      have hcx := fun i => RX0.out.cell i
      have hcy := fun i => RY0.out.cell i
      have hlx := RX0.out.lt
      have hly := RY0.out.lt
      have txx := Lib.hid (show x.tx = true by rw [EX.out]; exact GTy.tx_sub (fun m t ht => by obtain ⟨z, hz, -, rfl⟩ := bindOf_some ht; exact (HF.out z hz).2) _ TXA.out)
      have txy := Lib.hid (show y.tx = true by rw [EY.out]; exact GTy.tx_sub (fun m t ht => by obtain ⟨z, hz, -, rfl⟩ := bindOf_some ht; exact (HF.out z hz).2) _ TXB.out)
      have hbx := GTy.tx_bulk x txx.out
      have hby := GTy.tx_bulk y txy.out
      have hwx := TX.out.2.1
      have hwy := TY.out.2.1
      clear RX RY hbc tx0 ty0 HC1 HC2 RA0 RB0 hca0 hcb0 hla0 hlb0 D0 D1 D2 F0 F1 F2 G1 EQ HS0 B0
      cases o1 : (x.op == 2)
      case' true =>
        have O1 := Lib.hid (show (a.sub (bindOf l)).op = 2 by rw [← EX.out]; simpa using o1)
        have p1 : (x.op == 1) = false := by have h : x.op = 2 := by simpa using o1
                                            rw [h]; rfl
        by_cases hsame : (y.op == 2) = true ∧ (x.n == y.n) = true
        · obtain ⟨o2, on⟩ := hsame
          have HR := Lib.hid (show UniR l a b (some l) from .same O1.out (by rw [← EY.out]; simpa using o2) (by rw [← EX.out, ← EY.out]; simpa using on))
          go_wp2_with fail
          go_ret2
          exact ⟨A, c, l, some l, rfl, HR.out, BC.out, fun l' h => by cases h; exact ⟨rfl, HF.out, SC.out⟩⟩
        have HNS := Lib.hid (show ¬ ((b.sub (bindOf l)).op = 2 ∧ (a.sub (bindOf l)).n = (b.sub (bindOf l)).n) by rw [← EX.out, ← EY.out]; simpa using hsame)
        have HB := Lib.hid (implBind l A c x.n y A4 c4 wc (by omega) hwx (by omega) SC.out TY.out)
        cases o2 : (y.op == 2)
        case' true =>
          have on : (x.n == y.n) = false := by
            cases on : (x.n == y.n)
            · rfl
            · exact absurd ⟨o2, on⟩ hsame
        all_goals
          clear hsame
          go_wp2_with fail
          refine HB.out.mono ?_
          rintro e w5 ⟨A', c', lr, ok, rfl, hb5, hres⟩
          have B5 := Lib.hid (BC.out.trans (hb5.mono BC.out.size))
          have HRES := Lib.hid hres
          clear hb5 hres HB
          go_wp2_with fail
          go_ret2
          rcases HRES.out with ⟨h1, rfl⟩ | ⟨h1, rfl, rfl, h4⟩
          · exact ⟨A', c', lr, none, rfl, .occL O1.out HNS.out (by rw [← EX.out, ← EY.out]; exact h1), B5.out, fun l' h => by cases h⟩
          · have h1' : (b.sub (bindOf l)).has (a.sub (bindOf l)).n = false := by rw [← EX.out, ← EY.out]; exact h1
            cases hany : (putB x.n y l).any fun z => decide (200 < z.ty.nodes)
            · refine ⟨A', c', putB x.n y l, some (putB x.n y l), rfl, by have h := UniR.putL O1.out h1'; rw [← EX.out, ← EY.out] at h; exact h, B5.out, fun l' h => by cases h; exact ⟨rfl, put_fewI HF.out txy.out hany, h4⟩⟩
            · refine ⟨A', c', putB x.n y l, none, rfl, .putLno O1.out h1' ?_, B5.out, fun l' h => by cases h⟩
              rw [← EX.out, ← EY.out]
              obtain ⟨z, hz, h5⟩ := List.any_eq_true.1 hany
              exact ⟨z, hz, by simpa using h5⟩
      have O1 := Lib.hid (show ¬ (a.sub (bindOf l)).op = 2 by rw [← EX.out]; simpa using o1)
      cases o2 : (y.op == 2)
      case true =>
        have O2 := Lib.hid (show (b.sub (bindOf l)).op = 2 by rw [← EY.out]; simpa using o2)
        have p2 : (y.op == 1) = false := by have h : y.op = 2 := by simpa using o2
                                            rw [h]; rfl
        have HB := Lib.hid (implBind l A c y.n x A3 c3 wc (by omega) hwy (by omega) SC.out TX.out)
        cases p1 : (x.op == 1)
        all_goals
          go_wp2_with fail
          refine HB.out.mono ?_
          rintro e w5 ⟨A', c', lr, ok, rfl, hb5, hres⟩
          have B5 := Lib.hid (BC.out.trans (hb5.mono BC.out.size))
          have HRES := Lib.hid hres
          clear hb5 hres HB
          go_wp2_with fail
          go_ret2
          rcases HRES.out with ⟨h1, rfl⟩ | ⟨h1, rfl, rfl, h4⟩
          · exact ⟨A', c', lr, none, rfl, .occR O1.out O2.out (by rw [← EX.out, ← EY.out]; exact h1), B5.out, fun l' h => by cases h⟩
          · have h1' : (a.sub (bindOf l)).has (b.sub (bindOf l)).n = false := by rw [← EX.out, ← EY.out]; exact h1
            cases hany : (putB y.n x l).any fun z => decide (200 < z.ty.nodes)
            · refine ⟨A', c', putB y.n x l, some (putB y.n x l), rfl, by have h := UniR.putR O1.out O2.out h1'; rw [← EX.out, ← EY.out] at h; exact h, B5.out, fun l' h => by cases h; exact ⟨rfl, put_fewI HF.out txx.out hany, h4⟩⟩
            · refine ⟨A', c', putB y.n x l, none, rfl, .putRno O1.out O2.out h1' ?_, B5.out, fun l' h => by cases h⟩
              rw [← EX.out, ← EY.out]
              obtain ⟨z, hz, h5⟩ := List.any_eq_true.1 hany
              exact ⟨z, hz, by simpa using h5⟩
      have O2 := Lib.hid (show ¬ (b.sub (bindOf l)).op = 2 by rw [← EY.out]; simpa using o2)
      by_cases hii : (x.op == 1) = true ∧ (y.op == 1) = true
      · obtain ⟨p1, p2⟩ := hii
        have HR := Lib.hid (show UniR l a b (some l) from by
          have gx := (GA.out.sub HU.out).1.1
          have gy := (GB.out.sub HU.out).1.1
          rw [← EX.out] at gx
          rw [← EY.out] at gy
          have kx := okS_int gx (by simpa using p1)
          have ky := okS_int gy (by simpa using p2)
          refine .kids O1.out O2.out ?_ ?_ ?_ ?_
          · rw [← EX.out, ← EY.out]; have h1 : x.op = 1 := by simpa using p1
            have h2 : y.op = 1 := by simpa using p2
            rw [h1, h2]
          · rw [← EX.out, ← EY.out, kx.1, ky.1]
          · rw [← EX.out, ← EY.out, kx.2, ky.2]
          · rw [← EX.out, ← EY.out, kx.2, ky.2]; exact .nil)
        go_wp2_with fail
        go_ret2
        exact ⟨A, c, l, some l, rfl, HR.out, BC.out, fun l' h => by cases h; exact ⟨rfl, HF.out, SC.out⟩⟩
      by_cases hsh : x.op = y.op ∧ x.s = y.s ∧ x.kids.length = y.kids.length
      case neg =>
        have HR := Lib.hid (show UniR l a b none from .clash O1.out O2.out (by rw [← EX.out, ← EY.out]; exact hsh))
        cases p1 : (x.op == 1)
        all_goals
          cases g1 : (x.op == y.op)
          case' false =>
            have c1 : (x.op != y.op) = true := by rw [bne, g1]; rfl
          case' true =>
            have c1 : (x.op != y.op) = false := by rw [bne, g1]; rfl
            cases g2 : (x.s.toList == y.s.toList)
            case' false =>
              have c2 : (x.s.toList != y.s.toList) = true := by rw [bne, g2]; rfl
            case' true =>
              have c2 : (x.s.toList != y.s.toList) = false := by rw [bne, g2]; rfl
              have c3 : ((x.kids.length : Int) != (y.kids.length : Int)) = true := by
                rw [bne_iff_ne]
                intro c3
                exact hsh ⟨by simpa using g1, by
                  have := (by simpa using g2 : x.s.toList = y.s.toList)
                  rw [ByteArray.toList_eq, ByteArray.toList_eq] at this
                  exact ByteArray.ext (Array.toList_inj.1 this), by omega⟩
          all_goals
            cases p2 : (y.op == 1)
            case' true =>
              first
                | (exfalso; exact hii ⟨p1, p2⟩)
                | skip
            all_goals
              clear hsh hii
              go_wp2_with fail
              go_ret2
              exact ⟨none, 0, [], none, rfl, HR.out, BC.out, fun l' h => by cases h⟩
      have HSH := Lib.hid hsh
      have p1 : (x.op == 1) = false := by
        cases p1 : (x.op == 1)
        · rfl
        · exfalso; exact hii ⟨p1, by rw [← hsh.1]; exact p1⟩
      have g1 : (x.op == y.op) = true := by simp [hsh.1]
      have g2 : (x.s.toList == y.s.toList) = true := by simp [hsh.2.1]
      have c1 : (x.op != y.op) = false := by simp [hsh.1]
      have c2 : (x.s.toList != y.s.toList) = false := by simp [hsh.2.1]
      have c3' : ((x.kids.length : Int) != (y.kids.length : Int)) = false := by simp [hsh.2.2]
      have hlk : x.kids.length ≤ 40000 := by
        have h1 : x.kids.length ≤ GTy.nodesL x.kids := by
          have : ∀ ts : List GTy, ts.length ≤ GTy.nodesL ts := by
            intro ts
            induction ts with
            | nil => simp
            | cons t r ih => have := t.nodes_pos; simp only [List.length_cons, GTy.nodesL]; omega
          exact this _
        have := x.nodes_eq; omega
      have HXX := Lib.hid (show x.sub (bindOf l) = x by rw [EX.out]; exact HU.out.twice GA.out.1)
      have GX := Lib.hid (show Good V5 x by rw [EX.out]; exact (GA.out.sub HU.out).1)
      have GY := Lib.hid (show Good V5 y by rw [EY.out]; exact (GB.out.sub HU.out).1)
      have HOX := Lib.hid (show ¬ x.op = 2 by simpa using o1)
      have HKX := Lib.hid (show (5 - l.length) * 50000 + x.nodes < k + 1 by rw [EX.out]; exact HK.out)
      have BKX := Lib.hid (fun (lj : List GBind) (hr : ∀ f, Resp f lj → Resp f l) (z : GTy) (hz : z ∈ x.kids) => show BndI lj z from NA.out.kid GA.out.1 hr O1.out (by rw [← EX.out]; exact hz))
      have BKY := Lib.hid (fun (lj : List GBind) (hr : ∀ f, Resp f lj → Resp f l) (z : GTy) (hz : z ∈ y.kids) => show BndI lj z from NB.out.kid GB.out.1 hr O2.out (by rw [← EY.out]; exact hz))
      clear hsh hii
      go_wp2_with fail
      go_loopw [0, 91] (fun v i wr => ∃ (j : Nat) (lj : List GBind) (Aj : Option Addr) (cj : Nat), j ≤ x.kids.length ∧ i = .int .i64 j ∧ v = .slice Aj lj.length cj ∧ Hid (UniTo l x.kids y.kids j lj) ∧ Hid (lj = l ∨ l.length < lj.length) ∧ Hid (Uni V5 lj ∧ FewL lj ∧ ∀ f, Resp f lj → Resp f l) ∧ Hid (Sl wr (Lt wr.heap.size) 5 Aj cj (lj.map GBind.toD)) ∧ Hid (Below wc.heap.size wc wr)) (fun _ i _ => x.kids.length - (intOf i).toNat)
      case atStart => exact ⟨0, l, A, c, by omega, by go_num, rfl, Lib.hid (UniTo.zero _ _ _), Lib.hid (.inl rfl), Lib.hid ⟨HU.out, HF.out, fun _ h => h⟩, SC, Lib.hid (Below.refl _ _)⟩
      case round =>
        clear SC hcx hcy hlx hly
        obtain ⟨j, lj, Aj, cj, hj, rfl, rfl, HT, HD, HUF, HG, HR⟩ := hrel
        have RXj := Lib.hid (RX0.out.below HR.out RX0.out.lt)
        have RYj := Lib.hid (RY0.out.below HR.out RY0.out.lt)
        have TXj := Lib.hid (TX.out.below HR.out HR.out.size)
        have TYj := Lib.hid (TY.out.below HR.out HR.out.size)
        have BWj := Lib.hid (BC.out.trans (HR.out.mono BC.out.size))
        have hlx2 := RXj.out.lt
        have hly2 := RYj.out.lt
        have hcx := fun i => RXj.out.cell i
        have hcy := fun i => RYj.out.cell i
        by_cases hlt : j < x.kids.length
        · have hlty : j < y.kids.length := by have := HSH.out.2.2; omega
          obtain ⟨b1, f1, A5, c5, eA1, hS1, q0, q1, q2, q3, at1⟩ := GTy.elem TXj.out.2.2.2 j hlt
          obtain ⟨b2, f2, A6, c6, eA2, hS2, r0, r1, r2, r3, at2⟩ := GTy.elem TYj.out.2.2.2 j hlty
          have hb1 : b1 < wr.heap.size := hS1
          have hb2 : b2 < wr.heap.size := hS2
          have hmx : x.kids[j] ∈ x.kids := List.getElem_mem hlt
          have hmy : y.kids[j] ∈ y.kids := List.getElem_mem hlty
          have HMX := Lib.hid hmx
          have HMY := Lib.hid hmy
          have HC := Lib.hid (IH.out lj Aj cj x.kids[j] y.kids[j] A5 c5 A6 c6 wr.drew (by
              have hkn := kid_nodes hmx
              have hkx := HKX.out
              rcases HD.out with e | e
              · rw [e]
                have h1 := kid_sub_nodes (f := bindOf l) HOX.out hmx
                rw [HXX.out] at h1
                omega
              · exact uni_lessI e HUF.out.1.few (BKX.out lj HUF.out.2.2 _ hmx lj HUF.out.1 HUF.out.2.1 HUF.out.1.resp) hkx) HUF.out.1 HUF.out.2.1 (GX.out.kid hmx) (GY.out.kid hmy) (GTy.tx_kid txx.out hmx) (GTy.tx_kid txy.out hmy) (BKX.out lj HUF.out.2.2 _ hmx) (BKY.out lj HUF.out.2.2 _ hmy)
            (HG.out.below (Below.refl _ _).drew (Nat.le_refl _)) (at1.below (Below.refl _ _).drew (Nat.le_refl _)) (at2.below (Below.refl _ _).drew (Nat.le_refl _)))
          subst eA1 eA2
          clear at1 at2 hS1 hS2 hmx hmy
          go_wp2_with fail
          go_region_law (first
            | (go_simp
               go_at_call 41
               refine HC.out.mono ?_
               rintro e w9 ⟨A', c', lr, r, rfl, hrun, hbw, hgov⟩
               have HRUN := Lib.hid hrun
               have HB9 := Lib.hid (HR.out.trans ((show Below wr.heap.size wr w9 from (Below.refl _ _).drew.trans hbw).mono HR.out.size))
               have HGV := Lib.hid hgov
               clear hrun hbw hgov))
          all_goals
            rcases r with _ | l'
            · have HF2 := Lib.hid (show UniR l a b none from .kids O1.out O2.out (by rw [← EX.out, ← EY.out]; exact HSH.out.1) (by rw [← EX.out, ← EY.out]; exact HSH.out.2.1) (by rw [← EX.out, ← EY.out]; exact HSH.out.2.2) (by rw [← EX.out, ← EY.out]; exact HT.out.fail hlt hlty HRUN.out))
              go_wp2_with fail
              go_ret2
              exact ⟨none, 0, [], none, rfl, HF2.out, BC.out.trans (HB9.out.mono BC.out.size), fun l' h => by cases h⟩
            · obtain ⟨e1, hf2, gv⟩ := HGV.out l' rfl
              subst e1
              have hsd := HRUN.out.sound HUF.out.1 (GX.out.kid HMX.out) (GY.out.kid HMY.out) lr rfl
              have HU2 := Lib.hid (show Uni V5 lr ∧ FewL lr ∧ ∀ f, Resp f lr → Resp f l from ⟨hsd.1, hf2, fun f hf => HUF.out.2.2 f (hsd.2 f hf).1⟩)
              have HG2 := Lib.hid gv
              have HD2 := Lib.hid (show lr = l ∨ l.length < lr.length by
                rcases HD.out with e | e
                · rcases HRUN.out.grow lr rfl with e2 | e2
                  · exact .inl (e2.trans e)
                  · rw [e] at e2; exact .inr e2
                · rcases HRUN.out.grow lr rfl with e2 | e2
                  · rw [e2]; exact .inr e
                  · exact .inr (by omega))
              have HT2 := Lib.hid (HT.out.succ hlt hlty HRUN.out)
              clear hf2 gv HGV HC hsd
              go_wp2_with fail
              go_roundw
              case rel => exact ⟨j + 1, lr, A', c', by omega, by go_num, rfl, HT2, HD2, HU2, HG2, HB9⟩
              case measure => simp [intOf]; omega
        · have HF2 := Lib.hid (show UniR l a b (some lj) from .kids O1.out O2.out (by rw [← EX.out, ← EY.out]; exact HSH.out.1) (by rw [← EX.out, ← EY.out]; exact HSH.out.2.1) (by rw [← EX.out, ← EY.out]; exact HSH.out.2.2) (by rw [← EX.out, ← EY.out]; exact HT.out.done (by omega) (by have := HSH.out.2.2; omega)))
          go_wp2_with fail
          go_ret2
          exact ⟨Aj, cj, lj, some lj, rfl, HF2.out, BWj.out, fun l' h => by cases h; exact ⟨rfl, HUF.out.2.1, HG.out⟩⟩
end Go.Proofs.Ytghldoiblbcacaa
