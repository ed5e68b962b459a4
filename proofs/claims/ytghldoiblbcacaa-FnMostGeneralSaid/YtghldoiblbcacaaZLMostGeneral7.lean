/- Texts of the claim LMostGeneral in one: UniS UnifyS DrawTy5 DrawSub DrawSame DrawApply Same SmRefl LawInts Up. Conditions: none but bounds on sizes. -/
import Derived.Test.YtghldoiblbcacaaZLMostGeneral6
import Derived.Test.YtghldoiblbcacaaZLMostGeneral3
import Derived.Test.YtghldoiblbcacaaZLMostGeneral2
import Derived.Deep.RegionHeld3
import Derived.Test.YtghldoiblbcacaaRows
import Derived.Test.YtghldoiblbcacaaZLMostGeneral0
import Derived.Lib.Hide
import Derived.StillTailTactics
import Derived.Test.YtghldoiblbcacaaZLMostGeneral1
import Derived.BigQuiet
/- The walk of Unify of the reference: it is a run of UniR. Conditions: vars are 0 to 4, texts are short. -/
namespace Go.Proofs.Ytghldoiblbcacaa
open Go.RowKit
set_option linter.unusedVariables false
set_option linter.unusedSimpArgs false
set_option maxHeartbeats 600000

def V5 (n : Int) : Prop := 0 ≤ n ∧ n < 5
/-- binds are small -/
def FewL (l : List GBind) : Prop := ∀ x, x ∈ l → x.ty.nodes ≤ 200 ∧ x.ty.tx = true
def ToUni (X : Nat → Prop) (l : List GBind) (a b : GTy) (v : Value) (w : World) (e : Ending) (w' : World) : Prop :=
  ∃ v' r, e = .returned (.tuple #[v', .bool r.isSome]) ∧ UniR l a b r ∧ Gr w w' v v' ∧ ∀ l', r = some l' → FewL l' ∧ Gov X w' 46 5 v' l'.length (l'.map GBind.toD)
mutual
theorem UniR.grow : ∀ {l : List GBind} {a b : GTy} {r : Option (List GBind)}, UniR l a b r → ∀ l', r = some l' → l' = l ∨ l.length < l'.length
  | l, a, b, _, .big _, l', e => by cases e
  | l, a, b, _, .same h1 h2 h3, l', e => by cases e; exact .inl rfl
  | l, a, b, _, .occL _ _ _, l', e => by cases e
  | l, a, b, _, .putL h1 h2, l', e => by cases e; exact .inr (by simp [putB])
  | l, a, b, _, .putLno _ _ _, l', e => by cases e
  | l, a, b, _, .occR _ _ _, l', e => by cases e
  | l, a, b, _, .putR h0 h1 h2, l', e => by cases e; exact .inr (by simp [putB])
  | l, a, b, _, .putRno _ _ _ _, l', e => by cases e
  | l, a, b, _, .clash _ _ _, l', e => by cases e
  | l, a, b, r, .kids h1 h2 h3 h4 h5 hk, l', e => UniRs.grow hk l' e
theorem UniRs.grow : ∀ {l : List GBind} {xs ys : List GTy} {r : Option (List GBind)}, UniRs l xs ys r → ∀ l', r = some l' → l' = l ∨ l.length < l'.length
  | l, _, _, _, .nil, l', e => by cases e; exact .inl rfl
  | l, _, _, _, .fail _, l', e => by cases e
  | l, _, _, r, .cons (l' := l1) ha hk, l', e => by
    rcases UniR.grow ha l1 rfl with h1 | h1 <;> rcases UniRs.grow hk l' e with h2 | h2
    · exact .inl (h2.trans h1)
    · rw [h1] at h2; exact .inr h2
    · rw [← h2] at h1; exact .inr h1
    · exact .inr (by omega)
end
theorem FewL.bulk {l : List GBind} (h : FewL l) : ∀ x, x ∈ l → x.ty.bulk ≤ 6599 := fun x hx => GTy.small_bulk (h x hx).2 (h x hx).1
theorem FewL.bulkL {l : List GBind} (h : FewL l) (hn : l.length ≤ 5) : bulkL GBind.bulk l ≤ 33000 := by
  have : ∀ l : List GBind, FewL l → Go.Proofs.Ytghldoiblbcacaa.bulkL GBind.bulk l ≤ l.length * 6600 := by
    intro l
    induction l with
    | nil => intro _; simp [Go.Proofs.Ytghldoiblbcacaa.bulkL]
    | cons x r ih =>
      intro h
      have h1 := h.bulk x (by simp)
      have h2 := ih (fun y hy => h y (by simp [hy]))
      have h3 := x.bulk_eq
      simp only [Go.Proofs.Ytghldoiblbcacaa.bulkL, List.length_cons]; omega
  have := this l h
  omega
theorem FewL.sub_nodes {l : List GBind} (h : FewL l) : ∀ t : GTy, (t.sub (bindOf l)).nodes ≤ t.nodes * 200 := by
  have hL : ∀ k : Nat, ∀ t : GTy, t.nodes < k → (t.sub (bindOf l)).nodes ≤ t.nodes * 200 := by
    intro k
    induction k with
    | zero => intro t h; omega
    | succ k ih =>
      intro t hk
      by_cases hv : t.op = 2 ∧ t.kids.length = 0
      · cases hf : bindOf l t.n with
        | some u =>
          rw [GTy.sub_some hv.1 hv.2 hf]
          obtain ⟨b, hb, -, rfl⟩ := bindOf_some hf
          have := (h b hb).1
          have := t.nodes_pos
          have : 1 * 200 ≤ t.nodes * 200 := Nat.mul_le_mul_right _ (by omega)
          omega
        | none =>
          have hk0 : t.kids = [] := List.eq_nil_of_length_eq_zero hv.2
          rw [GTy.sub_none (.inr hf), GTy.nodes_eq, GTy.mk_kids, hk0, List.map_nil, GTy.nodesL]
          have := t.nodes_pos
          omega
      · rw [GTy.sub_none (.inl hv), GTy.nodes_eq, GTy.mk_kids, GTy.nodes_eq t]
        have hL2 : ∀ ts : List GTy, (∀ x, x ∈ ts → x.nodes < k) → GTy.nodesL (ts.map (GTy.sub (bindOf l))) ≤ GTy.nodesL ts * 200 := by
          intro ts
          induction ts with
          | nil => intro _; simp [GTy.nodesL]
          | cons x r ih2 =>
            intro hx
            have a := ih x (hx x (by simp))
            have b := ih2 (fun y hy => hx y (by simp [hy]))
            simp only [List.map_cons, GTy.nodesL]; omega
        have := hL2 t.kids (fun x hx => by have := kid_nodes hx; omega)
        omega
  exact fun t => hL (t.nodes + 1) t (by omega)

theorem Row.all4 {w : World} {g : Nat} {T : TypeId} {a0 a1 a2 a3 : Value} (h : Row w g T #[a0, a1, a2, a3]) (v0 v1 v2 v3 : Value) : Row ((((w.setCell ⟨g, 0, none⟩ v0).setCell ⟨g, 1, none⟩ v1).setCell ⟨g, 2, none⟩ v2).setCell ⟨g, 3, none⟩ v3) g T #[v0, v1, v2, v3] := (((h.set 0 v0).set 1 v1).set 2 v2).set 3 v3
theorem Row.far4 {w : World} {g q : Nat} {T : TypeId} {cs : Array Value} (h : Row w q T cs) (hg : q ≠ g) (v0 v1 v2 v3 : Value) : Row ((((w.setCell ⟨g, 0, none⟩ v0).setCell ⟨g, 1, none⟩ v1).setCell ⟨g, 2, none⟩ v2).setCell ⟨g, 3, none⟩ v3) q T cs := (((h.far (p := ⟨g, 0, none⟩) hg v0).far (p := ⟨g, 1, none⟩) hg v1).far (p := ⟨g, 2, none⟩) hg v2).far (p := ⟨g, 3, none⟩) hg v3
theorem below4 {B : Nat} {a w : World} (h : Below B a w) {g : Nat} (hg : B ≤ g) (v0 v1 v2 v3 : Value) : Below B a ((((w.setCell ⟨g, 0, none⟩ v0).setCell ⟨g, 1, none⟩ v1).setCell ⟨g, 2, none⟩ v2).setCell ⟨g, 3, none⟩ v3) := setCells_below h g 0 hg [v0, v1, v2, v3]
theorem block4 (w : World) (g : Nat) (v0 v1 v2 v3 : Value) (b : Nat) (hb : b ≠ g) : ((((w.setCell ⟨g, 0, none⟩ v0).setCell ⟨g, 1, none⟩ v1).setCell ⟨g, 2, none⟩ v2).setCell ⟨g, 3, none⟩ v3).heap[b]? = w.heap[b]? := setCells_block w g 0 [v0, v1, v2, v3] b hb
theorem size4 (w : World) (g : Nat) (v0 v1 v2 v3 : Value) : ((((w.setCell ⟨g, 0, none⟩ v0).setCell ⟨g, 1, none⟩ v1).setCell ⟨g, 2, none⟩ v2).setCell ⟨g, 3, none⟩ v3).heap.size = w.heap.size := setCells_size w g 0 [v0, v1, v2, v3]
theorem put_few {l l' : List GBind} {n : Int} {t : GTy} (hf : FewL l) (hn : t.nodes ≤ 200) (ht : t.tx = true) (h : putV n t l = some l') : FewL l' := by
  obtain ⟨rfl, hs⟩ := putV_some h
  intro x hx
  rcases List.mem_append.1 hx with hx | hx
  · obtain ⟨b, hb, rfl⟩ := List.mem_map.1 hx
    exact ⟨hs b hb, GTy.tx_sub (fun m u hu => by rw [(oneF_some hu).2]; exact ht) _ (hf b hb).2⟩
  · rw [List.mem_singleton] at hx; subst hx; exact ⟨hn, ht⟩

theorem uni_less {a b m n x k : Nat} (h : a < b) (hb : b ≤ 5) (hm : m ≤ n * 200) (hn : n ≤ 200) (hk : (5 - a) * 50000 + x < k + 1) : (5 - b) * 50000 + m < k := by
  have h1 : (5 - b) * 50000 + 50000 ≤ (5 - a) * 50000 := by
    have h2 : 5 - b + 1 ≤ 5 - a := by omega
    have h3 := Nat.mul_le_mul_right 50000 h2
    rw [Nat.add_mul, Nat.one_mul] at h3
    exact h3
  have key : ∀ P Q m x k : Nat, P + 50000 ≤ Q → m ≤ 40000 → Q + x < k + 1 → P + m < k := by intros; omega
  exact key _ _ _ _ _ h1 (Nat.le_trans hm (Nat.le_trans (Nat.mul_le_mul_right 200 hn) (by decide))) hk
set_option maxRecDepth 20000 in
theorem specUni (X : Nat → Prop) (k : Nat) : ∀ (l : List GBind) (A : Option Addr) (c : Nat) (a b : GTy) (Aa : Option Addr) (ca : Nat) (Ab : Option Addr) (cb : Nat) (w : World), (∀ b, w.heap.size ≤ b → X b) → (5 - l.length) * 50000 + (a.sub (bindOf l)).nodes < k →
    Uni V5 l → FewL l → Good V5 a → Good V5 b → a.tx = true → b.tx = true → a.nodes ≤ 200 → b.nodes ≤ 200 → Gov X w 46 5 (.slice A l.length c) l.length (l.map GBind.toD) → GTy.At w (Off w (.slice A l.length c)) Aa ca a → GTy.At w (Off w (.slice A l.length c)) Ab cb b →
    Calls Try.prog 45 #[.slice A l.length c, .agg #[.int .i64 a.op, .int .i64 a.n, .string a.s, .slice Aa a.kids.length ca], .agg #[.int .i64 b.op, .int .i64 b.n, .string b.s, .slice Ab b.kids.length cb]] w (ToUni X l a b (.slice A l.length c) w) := by
  induction k with
  | zero => intros; omega
  | succ k ih =>
    intro l A c a b Aa ca Ab cb w hX hk hu hf ga gb txa txb na nb hg hata hatb
    have hlen : l.length ≤ 5 := hu.few
    have IH := Lib.hid ih
    have HX := Lib.hid hX
    clear hX
    have HU := Lib.hid hu
    have HF := Lib.hid hf
    have GA := Lib.hid ga
    have GB := Lib.hid gb
    have TXA := Lib.hid txa
    have TXB := Lib.hid txb
    have NA := Lib.hid na
    have NB := Lib.hid nb
    have HK := Lib.hid hk
    have G0 := Lib.hid hg
    have TA := Lib.hid hata
    have TB := Lib.hid hatb
    clear ih hu hf ga gb txa txb na nb hk hg hata hatb
    obtain ⟨x, ex⟩ : ∃ x, x = a.sub (bindOf l) := ⟨_, rfl⟩
    obtain ⟨y, ey⟩ : ∃ y, y = b.sub (bindOf l) := ⟨_, rfl⟩
    have EX := Lib.hid ex
    have EY := Lib.hid ey
    obtain ⟨w0, e0⟩ : ∃ w0, w0 = (w.alloc (.cells #[.int .i64 a.op, .int .i64 a.n, .string a.s, .slice Aa a.kids.length ca] 27)).alloc (.cells #[.int .i64 b.op, .int .i64 b.n, .string b.s, .slice Ab b.kids.length cb] 27) := ⟨_, rfl⟩
    have B0 := Lib.hid (show Below w.heap.size w w0 by rw [e0]; exact ((Below.refl _ _).alloc (Nat.le_refl _) _).alloc (by simp) _)
    have S0 := Lib.hid (show w0.heap.size = w.heap.size + 2 by rw [e0]; simp)
    have RA0 := Lib.hid (show Row w0 w.heap.size 27 #[.int .i64 a.op, .int .i64 a.n, .string a.s, .slice Aa a.kids.length ca] by rw [e0]; exact (Row.new' _ _ _ rfl).alloc _)
    have RB0 := Lib.hid (show Row w0 (w.heap.size + 1) 27 #[.int .i64 b.op, .int .i64 b.n, .string b.s, .slice Ab b.kids.length cb] by rw [e0]; exact Row.new' _ _ _ (by simp))
    have NV := Lib.hid (fun (g : Nat) (h : w.heap.size ≤ g) => G0.out.ne h)
    have HC1 := Lib.hid (show Calls Try.prog 18 #[.slice A l.length c, .agg #[.int .i64 a.op, .int .i64 a.n, .string a.s, .slice Aa a.kids.length ca]] w0 (ToTy x w0) by
      rw [ex]
      exact specApply (a.bulk + 1) l A c a Aa ca w0 (by omega) (by have := GTy.small_bulk TXA.out NA.out; omega) (by have := HF.out.bulkL hlen; omega) (G0.out.below B0.out).sl (TA.out.keep fun q hq => ⟨(Below.off B0.out q hq).1.1, (Below.off B0.out q hq).2⟩))
    have HC2 := Lib.hid (fun (W : World) (hb : Below w.heap.size w W) => show Calls Try.prog 18 #[.slice A l.length c, .agg #[.int .i64 b.op, .int .i64 b.n, .string b.s, .slice Ab b.kids.length cb]] W (ToTy y W) by
      rw [ey]
      exact specApply (b.bulk + 1) l A c b Ab cb W (by omega) (by have := GTy.small_bulk TXB.out NB.out; omega) (by have := HF.out.bulkL hlen; omega) (G0.out.below hb).sl (TB.out.keep fun q hq => ⟨(Below.off hb q hq).1.1, (Below.off hb q hq).2⟩))
    have EQ := Lib.hid e0
    clear ex ey e0
    go_enter Try.func45, Try.ntmps45
    go_wp2_with fail
    rw [← EQ.out]
    refine HC1.out.mono ?_
    rintro e w1 ⟨A3, c3, rfl, how, hb1⟩
    have RA1 := Lib.hid (RA0.out.below hb1 RA0.out.lt)
    have RB1 := Lib.hid (RB0.out.below hb1 RB0.out.lt)
    obtain ⟨W1, eW1⟩ : ∃ W1, W1 = ((((w1.setCell ⟨w.heap.size, 0, none⟩ (.int .i64 x.op)).setCell ⟨w.heap.size, 1, none⟩ (.int .i64 x.n)).setCell ⟨w.heap.size, 2, none⟩ (.string x.s)).setCell ⟨w.heap.size, 3, none⟩ (.slice A3 x.kids.length c3)) := ⟨_, rfl⟩
    have BW1 := Lib.hid (show Below w.heap.size w W1 by rw [eW1]; exact below4 (B0.out.trans (hb1.mono B0.out.size)) (Nat.le_refl _) _ _ _ _)
    have RA2 := Lib.hid (show Row W1 w.heap.size 27 #[.int .i64 x.op, .int .i64 x.n, .string x.s, .slice A3 x.kids.length c3] by rw [eW1]; exact RA1.out.all4 _ _ _ _)
    have RB2 := Lib.hid (show Row W1 (w.heap.size + 1) 27 #[.int .i64 b.op, .int .i64 b.n, .string b.s, .slice Ab b.kids.length cb] by rw [eW1]; exact RB1.out.far4 (by omega) _ _ _ _)
    have TX1 := Lib.hid (show GTy.At W1 (fun q => w.heap.size + 2 ≤ q ∧ q < W1.heap.size) A3 c3 x by
      rw [eW1]
      exact how.at.keep fun q hq => ⟨⟨by have := S0.out; have := hq.1; omega, by rw [size4]; exact hq.2⟩, block4 _ _ _ _ _ _ _ (by have := S0.out; have := hq.1; omega)⟩)
    have EQ1 := Lib.hid eW1
    have hra := RA1.out.lt
    have hrb := RB1.out.lt
    have hfa := fun o => RA1.out.frozen o
    have hca := fun i => RA1.out.cell i
    have hcb := fun i => RB1.out.cell i
    clear EQ HC1 eW1 how hb1
    go_wp2_with fail
    rw [← EQ1.out]
    refine (HC2.out W1 BW1.out).mono ?_
    rintro e w2 ⟨A4, c4, rfl, how, hb2⟩
    have RA3 := Lib.hid (RA2.out.below hb2 RA2.out.lt)
    have RB3 := Lib.hid (RB2.out.below hb2 RB2.out.lt)
    obtain ⟨W2, eW2⟩ : ∃ W2, W2 = ((((w2.setCell ⟨w.heap.size + 1, 0, none⟩ (.int .i64 y.op)).setCell ⟨w.heap.size + 1, 1, none⟩ (.int .i64 y.n)).setCell ⟨w.heap.size + 1, 2, none⟩ (.string y.s)).setCell ⟨w.heap.size + 1, 3, none⟩ (.slice A4 y.kids.length c4)) := ⟨_, rfl⟩
    have BW2 := Lib.hid (show Below w.heap.size w W2 by rw [eW2]; exact below4 (BW1.out.trans (hb2.mono BW1.out.size)) (by omega) _ _ _ _)
    have RA4 := Lib.hid (show Row W2 w.heap.size 27 #[.int .i64 x.op, .int .i64 x.n, .string x.s, .slice A3 x.kids.length c3] by rw [eW2]; exact RA3.out.far4 (by omega) _ _ _ _)
    have RB4 := Lib.hid (show Row W2 (w.heap.size + 1) 27 #[.int .i64 y.op, .int .i64 y.n, .string y.s, .slice A4 y.kids.length c4] by rw [eW2]; exact RB3.out.all4 _ _ _ _)
    have SZ1 := RB2.out.lt
    have TX2 := Lib.hid (show GTy.At W2 (fun q => w.heap.size + 2 ≤ q ∧ q < W2.heap.size) A3 c3 x by
      rw [eW2]
      exact TX1.out.keep fun q hq => ⟨⟨hq.1, by rw [size4]; exact Nat.lt_of_lt_of_le hq.2 hb2.size⟩, (block4 _ _ _ _ _ _ _ (by have := hq.1; omega)).trans (hb2.block q hq.2)⟩)
    have TY2 := Lib.hid (show GTy.At W2 (fun q => w.heap.size + 2 ≤ q ∧ q < W2.heap.size) A4 c4 y by
      rw [eW2]
      exact how.at.keep fun q hq => ⟨⟨by have := hq.1; omega, by rw [size4]; exact hq.2⟩, block4 _ _ _ _ _ _ _ (by have := hq.1; omega)⟩)
    have EQ2 := Lib.hid eW2
    have hra := RA3.out.lt
    have hrb := RB3.out.lt
    have hfb := fun o => RB3.out.frozen o
    have hca := fun i => RA3.out.cell i
    have hcb := fun i => RB3.out.cell i
    have hxn := HF.out.sub_nodes a
    have hyn := HF.out.sub_nodes b
    rw [← EX.out] at hxn
    rw [← EY.out] at hyn
    have hxn2 : x.nodes ≤ 40000 := by have := NA.out; omega
    have hyn2 : y.nodes ≤ 40000 := by have := NB.out; omega
    have HS1 := Lib.hid (specTySize x.nodes x A3 c3 W2 (Nat.le_refl _) (by omega) (TX2.out.keep fun q hq => ⟨hq.2, rfl⟩))
    clear HC2 EQ1 eW2 how hb2 hxn hyn RA1 RB1 RA2 RB2 TX1 RA0 RB0
    go_wp2_with fail
    rw [← EQ2.out]
    refine HS1.out.mono ?_
    rintro e w3 ⟨rfl, hb3⟩
    have BW3 := Lib.hid (BW2.out.trans (hb3.mono BW2.out.size))
    have RA5 := Lib.hid (RA4.out.below hb3 RA4.out.lt)
    have RB5 := Lib.hid (RB4.out.below hb3 RB4.out.lt)
    have TX3 := Lib.hid (TX2.out.keep (S' := fun q => w.heap.size + 2 ≤ q ∧ q < w3.heap.size) fun q hq => ⟨⟨hq.1, Nat.lt_of_lt_of_le hq.2 hb3.size⟩, hb3.block q hq.2⟩)
    have TY3 := Lib.hid (TY2.out.keep (S' := fun q => w.heap.size + 2 ≤ q ∧ q < w3.heap.size) fun q hq => ⟨⟨hq.1, Nat.lt_of_lt_of_le hq.2 hb3.size⟩, hb3.block q hq.2⟩)
    have hra := RA5.out.lt
    have hrb := RB5.out.lt
    have hca := fun i => RA5.out.cell i
    have hcb := fun i => RB5.out.cell i
    clear HS1 EQ2 hb3 hfb RA3 RB3 RA4 RB4 TX2 TY2 hfa
    by_cases hbx : 200 < x.nodes
    · have hd : decide ((x.nodes : Int) > 200) = true := decide_eq_true (by omega)
      have HR := Lib.hid (show UniR l a b none from .big (.inl (by rw [← EX.out]; exact hbx)))
      go_wp2_with fail
      go_ret2
      exact ⟨_, none, rfl, HR.out, Gr.of_below BW3.out, fun l' h => by cases h⟩
    have hd : decide ((x.nodes : Int) > 200) = false := decide_eq_false (by omega)
    have HS2 := Lib.hid (specTySize y.nodes y A4 c4 w3 (Nat.le_refl _) (by omega) (TY3.out.keep fun q hq => ⟨hq.2, rfl⟩))
    go_wp2_with fail
    refine HS2.out.mono ?_
    rintro e u ⟨rfl, hb4⟩
    have BU := Lib.hid (BW3.out.trans (hb4.mono BW3.out.size))
    have RA := Lib.hid (RA5.out.below hb4 RA5.out.lt)
    have RB := Lib.hid (RB5.out.below hb4 RB5.out.lt)
    have GU := Lib.hid (G0.out.below BU.out)
    have TX := Lib.hid (TX3.out.keep (S' := Off u (.slice A l.length c)) fun q hq => ⟨⟨Nat.lt_of_lt_of_le hq.2 hb4.size, NV.out q (by have := hq.1; omega)⟩, hb4.block q hq.2⟩)
    have TY := Lib.hid (TY3.out.keep (S' := Off u (.slice A l.length c)) fun q hq => ⟨⟨Nat.lt_of_lt_of_le hq.2 hb4.size, NV.out q (by have := hq.1; omega)⟩, hb4.block q hq.2⟩)
    have hra := RA.out.lt
    have hrb := RB.out.lt
    have hca := fun i => RA.out.cell i
    have hcb := fun i => RB.out.cell i
    have NVa := Lib.hid (NV.out w.heap.size (Nat.le_refl _))
    have NVb := Lib.hid (NV.out (w.heap.size + 1) (by omega))
    clear HS2 hb4 RA5 RB5 TX3 TY3 BW3 BW2 BW1 hd TA TB G0 NV B0 S0
    by_cases hby : 200 < y.nodes
    · have hd : decide ((y.nodes : Int) > 200) = true := decide_eq_true (by omega)
      have HR := Lib.hid (show UniR l a b none from .big (.inr (by rw [← EY.out]; exact hby)))
      go_wp2_with fail
      go_ret2
      exact ⟨_, none, rfl, HR.out, Gr.of_below BU.out, fun l' h => by cases h⟩
    have hd : decide ((y.nodes : Int) > 200) = false := decide_eq_false (by omega)
    have hbkx := Lib.hid (show x.bulk ≤ 6599 from GTy.small_bulk (by rw [EX.out]; exact GTy.tx_sub (fun m t ht => by obtain ⟨z, hz, -, rfl⟩ := bindOf_some ht; exact (HF.out z hz).2) _ TXA.out) (by omega))
    have hbky := Lib.hid (show y.bulk ≤ 6599 from GTy.small_bulk (by rw [EY.out]; exact GTy.tx_sub (fun m t ht => by obtain ⟨z, hz, -, rfl⟩ := bindOf_some ht; exact (HF.out z hz).2) _ TXB.out) (by omega))
    have txx := Lib.hid (show x.tx = true by rw [EX.out]; exact GTy.tx_sub (fun m t ht => by obtain ⟨z, hz, -, rfl⟩ := bindOf_some ht; exact (HF.out z hz).2) _ TXA.out)
    have txy := Lib.hid (show y.tx = true by rw [EY.out]; exact GTy.tx_sub (fun m t ht => by obtain ⟨z, hz, -, rfl⟩ := bindOf_some ht; exact (HF.out z hz).2) _ TXB.out)
    have hwx := TX.out.2.1
    have hwy := TY.out.2.1
    cases o1 : (x.op == 2)
    case' true =>
      have O1 := Lib.hid (show (a.sub (bindOf l)).op = 2 by rw [← EX.out]; simpa using o1)
      by_cases hsame : (y.op == 2) = true ∧ (x.n == y.n) = true
      · obtain ⟨o2, on⟩ := hsame
        have HR := Lib.hid (show UniR l a b (some l) from .same O1.out (by rw [← EY.out]; simpa using o2) (by rw [← EX.out, ← EY.out]; simpa using on))
        go_wp2_with fail
        go_ret2
        exact ⟨_, some l, rfl, HR.out, Gr.of_below BU.out, fun l' h => by cases h; exact ⟨HF.out, GU.out⟩⟩
      have HCH := Lib.hid (specHas x.n (y.bulk + 1) y A4 c4 u (by omega) (TY.out.keep fun q hq => ⟨hq.1, rfl⟩))
      have HNS := Lib.hid (show ¬ ((b.sub (bindOf l)).op = 2 ∧ (a.sub (bindOf l)).n = (b.sub (bindOf l)).n) by rw [← EX.out, ← EY.out]; simpa using hsame)
      have HCP := Lib.hid (fun (W : World) (hb : Below u.heap.size u W) => specPut X l A c x.n y A4 c4 W (fun q hq => HX.out q (Nat.le_trans (Nat.le_trans BU.out.size hb.size) hq)) (by omega) hwx (by have := hbky.out; omega) (fun z hz => by have := HF.out.bulk z hz; omega) (GU.out.below hb) (TY.out.keep (Below.off hb)))
      cases o2 : (y.op == 2)
      case' true =>
        have on : (x.n == y.n) = false := by
          cases on : (x.n == y.n)
          · rfl
          · exact absurd ⟨o2, on⟩ hsame
      all_goals
        clear hsame
        go_wp2_with fail
        refine HCH.out.mono ?_
        rintro e u1 ⟨rfl, hb5⟩
        have BU1 := Lib.hid (BU.out.trans (hb5.mono BU.out.size))
        have hca := fun i => (RA.out.below hb5 RA.out.lt).cell i
        have hcb := fun i => (RB.out.below hb5 RB.out.lt).cell i
        have HC9 := Lib.hid (HCP.out u1 hb5)
        cases hh : y.has x.n
        · have HH := Lib.hid (show (b.sub (bindOf l)).has (a.sub (bindOf l)).n = false by rw [← EX.out, ← EY.out]; exact hh)
          clear hb5 HCH HCP
          go_wp2_with fail
          refine HC9.out.mono ?_
          rintro e u2 ⟨v', rfl, hgr, hgov⟩
          have HGR := Lib.hid ((Gr.of_below BU1.out).trans hgr)
          have HGV := Lib.hid hgov
          clear hgr hgov
          go_wp2_with fail
          go_ret2
          exact ⟨_, putV x.n y l, rfl, by rw [EX.out, EY.out]; exact .putVL O1.out HH.out, HGR.out, fun l' h => ⟨put_few HF.out (by omega) txy.out h, HGV.out l' h⟩⟩
        · have HR := Lib.hid (show UniR l a b none from .occL O1.out HNS.out (by rw [← EX.out, ← EY.out]; exact hh))
          clear hb5 HCH HCP HC9
          go_wp2_with fail
          go_ret2
          exact ⟨_, none, rfl, HR.out, Gr.of_below BU1.out, fun l' h => by cases h⟩
    have O1 := Lib.hid (show ¬ (a.sub (bindOf l)).op = 2 by rw [← EX.out]; simpa using o1)
    cases o2 : (y.op == 2)
    case true =>
      have O2 := Lib.hid (show (b.sub (bindOf l)).op = 2 by rw [← EY.out]; simpa using o2)
      have HCH := Lib.hid (specHas y.n (x.bulk + 1) x A3 c3 u (by omega) (TX.out.keep fun q hq => ⟨hq.1, rfl⟩))
      have HCP := Lib.hid (fun (W : World) (hb : Below u.heap.size u W) => specPut X l A c y.n x A3 c3 W (fun q hq => HX.out q (Nat.le_trans (Nat.le_trans BU.out.size hb.size) hq)) (by omega) hwy (by have := hbkx.out; omega) (fun z hz => by have := HF.out.bulk z hz; omega) (GU.out.below hb) (TX.out.keep (Below.off hb)))
      go_wp2_with fail
      refine HCH.out.mono ?_
      rintro e u1 ⟨rfl, hb5⟩
      have BU1 := Lib.hid (BU.out.trans (hb5.mono BU.out.size))
      have hca := fun i => (RA.out.below hb5 RA.out.lt).cell i
      have hcb := fun i => (RB.out.below hb5 RB.out.lt).cell i
      have HC9 := Lib.hid (HCP.out u1 hb5)
      cases hh : x.has y.n
      · have HH := Lib.hid (show (a.sub (bindOf l)).has (b.sub (bindOf l)).n = false by rw [← EX.out, ← EY.out]; exact hh)
        clear hb5 HCH HCP
        go_wp2_with fail
        refine HC9.out.mono ?_
        rintro e u2 ⟨v', rfl, hgr, hgov⟩
        have HGR := Lib.hid ((Gr.of_below BU1.out).trans hgr)
        have HGV := Lib.hid hgov
        clear hgr hgov
        go_wp2_with fail
        go_ret2
        exact ⟨_, putV y.n x l, rfl, by rw [EX.out, EY.out]; exact .putVR O1.out O2.out HH.out, HGR.out, fun l' h => ⟨put_few HF.out (by omega) txx.out h, HGV.out l' h⟩⟩
      · have HR := Lib.hid (show UniR l a b none from .occR O1.out O2.out (by rw [← EX.out, ← EY.out]; exact hh))
        clear hb5 HCH HCP HC9
        go_wp2_with fail
        go_ret2
        exact ⟨_, none, rfl, HR.out, Gr.of_below BU1.out, fun l' h => by cases h⟩
    have O2 := Lib.hid (show ¬ (b.sub (bindOf l)).op = 2 by rw [← EY.out]; simpa using o2)
    by_cases hsh : x.op = y.op ∧ x.s = y.s ∧ x.kids.length = y.kids.length
    case neg =>
      have HR := Lib.hid (show UniR l a b none from .clash O1.out O2.out (by rw [← EX.out, ← EY.out]; exact hsh))
      cases g1 : (x.op == y.op)
      case' false =>
        have c1 : (x.op != y.op) = true := by rw [bne, g1]; rfl
      case' true =>
        have c1 : (x.op != y.op) = false := by rw [bne, g1]; rfl
        cases g2 : (x.s.toList == y.s.toList)
        case' false =>
          have c2 : (x.s.toList != y.s.toList) = true := by rw [bne, g2]; rfl
        case' true =>
          have c2 : (x.s.toList != y.s.toList) = false := by rw [bne, g2]; rfl
          have c3 : ((x.kids.length : Int) != (y.kids.length : Int)) = true := by
            rw [bne_iff_ne]
            intro c3
            exact hsh ⟨by simpa using g1, by
              have := (by simpa using g2 : x.s.toList = y.s.toList)
              rw [ByteArray.toList_eq, ByteArray.toList_eq] at this
              exact ByteArray.ext (Array.toList_inj.1 this), by omega⟩
      all_goals
        clear hsh
        go_wp2_with fail
        go_ret2
        exact ⟨_, none, rfl, HR.out, Gr.of_below BU.out, fun l' h => by cases h⟩
    have HSH := Lib.hid hsh
    have g1 : (x.op == y.op) = true := by simp [hsh.1]
    have g2 : (x.s.toList == y.s.toList) = true := by simp [hsh.2.1]
    have c1 : (x.op != y.op) = false := by simp [hsh.1]
    have c2 : (x.s.toList != y.s.toList) = false := by simp [hsh.2.1]
    have c3' : ((x.kids.length : Int) != (y.kids.length : Int)) = false := by simp [hsh.2.2]
    have hlx : x.kids.length ≤ 200 := by
      have h1 : x.kids.length ≤ GTy.nodesL x.kids := by
        have : ∀ ts : List GTy, ts.length ≤ GTy.nodesL ts := by
          intro ts
          induction ts with
          | nil => simp
          | cons t r ih => have := t.nodes_pos; simp only [List.length_cons, GTy.nodesL]; omega
        exact this _
      have := x.nodes_eq; omega
    clear hsh
    have HXX := Lib.hid (show x.sub (bindOf l) = x by rw [EX.out]; exact HU.out.twice GA.out.1)
    have GX := Lib.hid (show Good V5 x by rw [EX.out]; exact (GA.out.sub HU.out).1)
    have GY := Lib.hid (show Good V5 y by rw [EY.out]; exact (GB.out.sub HU.out).1)
    have HOX := Lib.hid (show ¬ x.op = 2 by simpa using o1)
    have HKX := Lib.hid (show (5 - l.length) * 50000 + x.nodes < k + 1 by rw [EX.out]; exact HK.out)
    go_wp2_with fail
    go_loopw [0, 12] (fun v i wr => ∃ (j : Nat) (lj : List GBind) (Aj : Option Addr) (cj : Nat), j ≤ x.kids.length ∧ i = .int .i64 j ∧ v = .slice Aj lj.length cj ∧ Hid (UniTo l x.kids y.kids j lj) ∧ Hid (lj = l ∨ l.length < lj.length) ∧ Hid (Uni V5 lj ∧ FewL lj) ∧ Hid (Gov X wr 46 5 (.slice Aj lj.length cj) lj.length (lj.map GBind.toD)) ∧ Hid (Gr u wr (.slice A l.length c) (.slice Aj lj.length cj))) (fun _ i _ => x.kids.length - (intOf i).toNat)
    case atStart => exact ⟨0, l, A, c, by omega, by go_num, rfl, Lib.hid (UniTo.zero _ _ _), Lib.hid (.inl rfl), Lib.hid ⟨HU.out, HF.out⟩, GU, Lib.hid (Gr.refl _ _)⟩
    case round =>
      clear GU hca hcb
      obtain ⟨j, lj, Aj, cj, hj, rfl, rfl, HT, HD, HUF, HG, HR⟩ := hrel
      have RAj := Lib.hid (HR.out.row RA.out NVa.out)
      have RBj := Lib.hid (HR.out.row RB.out NVb.out)
      have TXj := Lib.hid (TX.out.keep HR.out.off)
      have TYj := Lib.hid (TY.out.keep HR.out.off)
      have hra := RAj.out.lt
      have hrb := RBj.out.lt
      have hca := fun i => RAj.out.cell i
      have hcb := fun i => RBj.out.cell i
      by_cases hlt : j < x.kids.length
      · have hlty : j < y.kids.length := by have := HSH.out.2.2; omega
        obtain ⟨b1, f1, A5, c5, eA1, hS1, p0, p1, p2, p3, at1⟩ := GTy.elem TXj.out.2.2.2 j hlt
        obtain ⟨b2, f2, A6, c6, eA2, hS2, q0, q1, q2, q3, at2⟩ := GTy.elem TYj.out.2.2.2 j hlty
        have hb1 := hS1.1
        have hb2 := hS2.1
        have hmx : x.kids[j] ∈ x.kids := List.getElem_mem hlt
        have hmy : y.kids[j] ∈ y.kids := List.getElem_mem hlty
        have HMX := Lib.hid hmx
        have HMY := Lib.hid hmy
        have HC := Lib.hid (IH.out lj Aj cj x.kids[j] y.kids[j] A5 c5 A6 c6 wr.drew (fun q hq => HX.out q (Nat.le_trans (Nat.le_trans BU.out.size HR.out.size) hq)) (by
            have hkn := kid_nodes hmx
            have hkx := HKX.out
            rcases HD.out with e | e
            · rw [e]
              have h1 := kid_sub_nodes (f := bindOf l) HOX.out hmx
              rw [HXX.out] at h1
              omega
            · exact uni_less e HUF.out.1.few (HUF.out.2.sub_nodes x.kids[j]) (by omega) hkx) HUF.out.1 HUF.out.2 (GX.out.kid hmx) (GY.out.kid hmy) (GTy.tx_kid txx.out hmx) (GTy.tx_kid txy.out hmy) (by have := kid_nodes hmx; omega) (by have := kid_nodes hmy; omega)
          (HG.out.below (Below.refl _ _).drew) (at1.keep (Below.off (Below.refl _ _).drew)) (at2.keep (Below.off (Below.refl _ _).drew)))
        subst eA1 eA2
        clear at1 at2 hS1 hS2 hmx hmy
        go_wp2_with fail
        go_region_law (first
          | (go_simp
             go_at_call 45
             refine HC.out.mono ?_
             rintro e w9 ⟨v', r, rfl, hrun, hgr, hgov⟩
             have HRUN := Lib.hid hrun
             have HGR := Lib.hid (HR.out.trans ((Gr.of_below (Below.refl _ _).drew).trans hgr))
             have HGV := Lib.hid hgov
             clear hrun hgr hgov))
        all_goals
          rcases r with _ | l'
          · have HF2 := Lib.hid (show UniR l a b none from .kids O1.out O2.out (by rw [← EX.out, ← EY.out]; exact HSH.out.1) (by rw [← EX.out, ← EY.out]; exact HSH.out.2.1) (by rw [← EX.out, ← EY.out]; exact HSH.out.2.2) (by rw [← EX.out, ← EY.out]; exact HT.out.fail hlt hlty HRUN.out))
            go_wp2_with fail
            go_ret2
            exact ⟨_, none, rfl, HF2.out, (Gr.of_below BU.out).trans HGR.out, fun l' h => by cases h⟩
          · obtain ⟨hf2, gv⟩ := HGV.out l' rfl
            obtain ⟨A7, c7, rfl⟩ := gv.form
            have HF2 := Lib.hid hf2
            have HG2 := Lib.hid gv
            have HU2 := Lib.hid (HRUN.out.sound HUF.out.1 (GX.out.kid HMX.out) (GY.out.kid HMY.out) l' rfl).1
            have HD2 := Lib.hid (show l' = l ∨ l.length < l'.length by
              rcases HD.out with e | e
              · rcases HRUN.out.grow l' rfl with e2 | e2
                · exact .inl (e2.trans e)
                · rw [e] at e2; exact .inr e2
              · rcases HRUN.out.grow l' rfl with e2 | e2
                · rw [e2]; exact .inr e
                · exact .inr (by omega))
            have HT2 := Lib.hid (HT.out.succ hlt hlty HRUN.out)
            clear hf2 gv HGV HC
            go_wp2_with fail
            go_roundw
            case rel => exact ⟨j + 1, l', A7, c7, by omega, by go_num, rfl, HT2, HD2, Lib.hid ⟨HU2.out, HF2.out⟩, HG2, HGR⟩
            case measure => simp [intOf]; omega
      · have HF2 := Lib.hid (show UniR l a b (some lj) from .kids O1.out O2.out (by rw [← EX.out, ← EY.out]; exact HSH.out.1) (by rw [← EX.out, ← EY.out]; exact HSH.out.2.1) (by rw [← EX.out, ← EY.out]; exact HSH.out.2.2) (by rw [← EX.out, ← EY.out]; exact HT.out.done (by omega) (by have := HSH.out.2.2; omega)))
        go_wp2_with fail
        go_ret2
        exact ⟨_, some lj, rfl, HF2.out, (Gr.of_below BU.out).trans HR.out, fun l' h => by cases h; exact ⟨HUF.out.2, HG.out⟩⟩
end Go.Proofs.Ytghldoiblbcacaa

/- Unify of the reference: of a right substitution it makes what a run of UniR makes. Conditions: vars are 0 to 4, texts are short. -/
namespace Go.Proofs.Ytghldoiblbcacaa
open Go.RowKit
set_option linter.unusedVariables false
set_option linter.unusedSimpArgs false
set_option maxHeartbeats 600000

theorem Uni.subOk {l : List GBind} (hu : Uni V5 l) (hf : FewL l) : subOkV l = true := by
  refine subOk_yes fun j hj => ?_
  have hm := List.getElem_mem hj
  have h1 := (hu.inV _ hm).1
  unfold subBad
  rw [decide_eq_false (by have := h1.1; omega)]
  have h2 : idxI (fun x : GBind => x.n == (l[j]).n) l = (j : Int) := by
    have hnd := List.pairwise_iff_getElem.1 hu.names
    exact idxI_at (fun i hi hij => by
      have := hnd i j (by simpa using hi) (by simpa using hj) hij
      simpa using this) hj (by simp)
  rw [h2]
  have h3 : (l[j]).ty.ok = true := by
    unfold GTy.ok
    rw [decide_eq_true (hf _ hm).1, (hu.inV _ hm).2.1]; rfl
  rw [h3]
  have h4 : (l.any fun x => (l[j]).ty.has x.n) = false := List.any_eq_false.2 fun x hx => by rw [hu.free _ hm x hx]; simp
  rw [h4]
  simp

def ToUnify (X : Nat → Prop) (l : List GBind) (a b : GTy) (w : World) (e : Ending) (w' : World) : Prop :=
  ∃ A1 c1 l' ok, e = .returned (.tuple #[.slice A1 (List.length l') c1, .bool ok]) ∧ Below w.heap.size w w' ∧ (ok = true → a.ok = true ∧ b.ok = true ∧ UniR l a b (some l')) ∧ (ok = false → l' = l ∧ (a.ok = true → b.ok = true → UniR l a b none)) ∧ FewL l' ∧ (∀ q, (Value.slice A1 l'.length c1).ownBlock = some q → w.heap.size ≤ q) ∧ Gov X w' 46 5 (.slice A1 l'.length c1) l'.length (l'.map GBind.toD)

theorem Gow.own {w : World} {B m : Nat} {e : TypeId} {size : Nat} {v : Value} {n : Nat} {xs : List D} (h : Gow w B m e size v n xs) : ∀ g, v.ownBlock = some g → B ≤ g ∧ g < w.heap.size := by
  obtain ⟨h1, cs, h2, h3, h4⟩ := h
  exact fun g hg => h2.lt g hg
theorem Gow.wide {w : World} {B B' m : Nat} {e : TypeId} {size : Nat} {v : Value} {n : Nat} {xs : List D} (h : Gow w B m e size v n xs) (hB : B' ≤ B) : Gow w B' m e size v n xs := by
  obtain ⟨h1, cs, h2, h3, h4⟩ := h
  refine ⟨h1, cs, ⟨h2.1, ?_⟩, h3, ownC_keep _ _ _ _ (fun b hb => ⟨⟨Nat.le_trans hB hb.1, hb.2⟩, rfl⟩) h4⟩
  rcases h2.2 with h | ⟨g, cap, cur, rfl, a1, a2, a3⟩
  · exact .inl h
  · exact .inr ⟨g, cap, cur, rfl, Nat.le_trans hB a1, a2, a3⟩

set_option maxRecDepth 20000 in
theorem specUnify (X : Nat → Prop) (l : List GBind) (A : Option Addr) (c : Nat) (a b : GTy) (Aa : Option Addr) (ca : Nat) (Ab : Option Addr) (cb : Nat) (w : World) (hX : ∀ b, w.heap.size ≤ b → X b)
    (hu : Uni V5 l) (hf : FewL l) (hva : a.okS = true → ∀ m, a.has m = true → V5 m) (hvb : b.okS = true → ∀ m, b.has m = true → V5 m) (txa : a.tx = true) (txb : b.tx = true) (ba : a.bulk ≤ 1000000000000) (bb : b.bulk ≤ 1000000000000) (hs : Sl w (Lt w.heap.size) 5 A c (l.map GBind.toD)) (hata : GTy.At w (Lt w.heap.size) Aa ca a) (hatb : GTy.At w (Lt w.heap.size) Ab cb b) :
    Calls Try.prog 9 #[.slice A l.length c, .agg #[.int .i64 a.op, .int .i64 a.n, .string a.s, .slice Aa a.kids.length ca], .agg #[.int .i64 b.op, .int .i64 b.n, .string b.s, .slice Ab b.kids.length cb]] w (ToUnify X l a b w) := by
  have hlen : l.length ≤ 5 := hu.few
  have hbl : bulkL GBind.bulk l ≤ 33000 := hf.bulkL hlen
  have HU := Lib.hid hu
  have HX := Lib.hid hX
  clear hX
  have HF := Lib.hid hf
  have S0 := Lib.hid hs
  have TA := Lib.hid hata
  have TB := Lib.hid hatb
  have HSO := Lib.hid (fun (W : World) (hb : Below w.heap.size w W) => show Calls Try.prog 42 #[.slice A l.length c] W fun e w' => e = .returned (.bool true) ∧ Below W.heap.size W w' by
    have h := specSubOk l A c W (by omega) (S0.out.below hb hb.size)
    rw [HU.out.subOk HF.out] at h
    exact h)
  have HOA := Lib.hid (fun (W : World) (hb : Below w.heap.size w W) => specTyOk a Aa ca W (by have := a.nodes_bulk; omega) (TA.out.below hb hb.size))
  have HOB := Lib.hid (fun (W : World) (hb : Below w.heap.size w W) => specTyOk b Ab cb W (by have := b.nodes_bulk; omega) (TB.out.below hb hb.size))
  have HCP := Lib.hid (fun (W : World) (hb : Below w.heap.size w W) => specBindsCopy l A c W (by omega) (S0.out.below hb hb.size))
  obtain ⟨w0, e0⟩ : ∃ w0, w0 = (w.alloc (.cells #[.int .i64 a.op, .int .i64 a.n, .string a.s, .slice Aa a.kids.length ca] 27)).alloc (.cells #[.int .i64 b.op, .int .i64 b.n, .string b.s, .slice Ab b.kids.length cb] 27) := ⟨_, rfl⟩
  have B0 := Lib.hid (show Below w.heap.size w w0 by rw [e0]; exact ((Below.refl _ _).alloc (Nat.le_refl _) _).alloc (by simp) _)
  have RA0 := Lib.hid (show Row w0 w.heap.size 27 #[.int .i64 a.op, .int .i64 a.n, .string a.s, .slice Aa a.kids.length ca] by rw [e0]; exact (Row.new' _ _ _ rfl).alloc _)
  have RB0 := Lib.hid (show Row w0 (w.heap.size + 1) 27 #[.int .i64 b.op, .int .i64 b.n, .string b.s, .slice Ab b.kids.length cb] by rw [e0]; exact Row.new' _ _ _ (by simp))
  have EQ := Lib.hid e0
  clear hu hf hs hata hatb hbl e0
  go_enter Try.func9, Try.ntmps9
  go_wp2_with fail
  rw [← EQ.out]
  refine (HSO.out w0 B0.out).mono ?_
  rintro e w1 ⟨rfl, hb1⟩
  have B1 := Lib.hid (B0.out.trans (hb1.mono B0.out.size))
  have RA1 := Lib.hid (RA0.out.below hb1 RA0.out.lt)
  have RB1 := Lib.hid (RB0.out.below hb1 RB0.out.lt)
  have hca := fun i => RA1.out.cell i
  have hcb := fun i => RB1.out.cell i
  have hra := RA1.out.lt
  have hrb := RB1.out.lt
  clear hb1 HSO EQ
  go_wp2_with fail
  refine (HOA.out w1 B1.out).mono ?_
  rintro e w2 ⟨rfl, hb2⟩
  have B2 := Lib.hid (B1.out.trans (hb2.mono B1.out.size))
  have RA2 := Lib.hid (RA1.out.below hb2 RA1.out.lt)
  have RB2 := Lib.hid (RB1.out.below hb2 RB1.out.lt)
  have hca := fun i => RA2.out.cell i
  have hcb := fun i => RB2.out.cell i
  have hra := RA2.out.lt
  have hrb := RB2.out.lt
  clear hb2 HOA RA1 RB1
  cases oa : a.ok
  · have HNO := Lib.hid (show a.ok = true → b.ok = true → UniR l a b none from fun h => by rw [oa] at h; cases h)
    go_wp2_with fail
    refine (HCP.out w2 B2.out).mono ?_
    rintro e w8 ⟨A8, c8, rfl, how, hb8⟩
    have B8 := Lib.hid (B2.out.trans (hb8.mono B2.out.size))
    have HOW := Lib.hid (fun q h => Nat.le_trans B2.out.size (how.own q h).1)
    have HG8 := Lib.hid (how.gov (X := X) (Nat.le_refl _) (fun q hq => HX.out q (Nat.le_trans B2.out.size hq)))
    clear how hb8
    go_wp2_with fail
    go_ret2
    exact ⟨_, _, l, false, rfl, B8.out, (fun h => by cases h), (fun _ => ⟨rfl, HNO.out⟩), HF.out, HOW.out, HG8.out⟩
  go_wp2_with fail
  refine (HOB.out w2 B2.out).mono ?_
  rintro e w3 ⟨rfl, hb3⟩
  have B3 := Lib.hid (B2.out.trans (hb3.mono B2.out.size))
  have RA3 := Lib.hid (RA2.out.below hb3 RA2.out.lt)
  have RB3 := Lib.hid (RB2.out.below hb3 RB2.out.lt)
  have hca := fun i => RA3.out.cell i
  have hcb := fun i => RB3.out.cell i
  have hra := RA3.out.lt
  have hrb := RB3.out.lt
  clear hb3 HOB RA2 RB2
  cases ob : b.ok
  · have HNO := Lib.hid (show a.ok = true → b.ok = true → UniR l a b none from fun _ h => by rw [ob] at h; cases h)
    go_wp2_with fail
    refine (HCP.out w3 B3.out).mono ?_
    rintro e w8 ⟨A8, c8, rfl, how, hb8⟩
    have B8 := Lib.hid (B3.out.trans (hb8.mono B3.out.size))
    have HOW := Lib.hid (fun q h => Nat.le_trans B3.out.size (how.own q h).1)
    have HG8 := Lib.hid (how.gov (X := X) (Nat.le_refl _) (fun q hq => HX.out q (Nat.le_trans B3.out.size hq)))
    clear how hb8
    go_wp2_with fail
    go_ret2
    exact ⟨_, _, l, false, rfl, B8.out, (fun h => by cases h), (fun _ => ⟨rfl, HNO.out⟩), HF.out, HOW.out, HG8.out⟩
  have oka := Lib.hid (show a.nodes ≤ 200 ∧ a.okS = true by unfold GTy.ok at oa; rw [Bool.and_eq_true, decide_eq_true_eq] at oa; exact oa)
  have okb := Lib.hid (show b.nodes ≤ 200 ∧ b.okS = true by unfold GTy.ok at ob; rw [Bool.and_eq_true, decide_eq_true_eq] at ob; exact ob)
  have HOKA := Lib.hid oa
  have HOKB := Lib.hid ob
  have HUN := Lib.hid (fun (A8 : Option Addr) (c8 : Nat) (W : World) (hb : Below w.heap.size w W) (hg : Gow W w.heap.size W.heap.size 46 5 (.slice A8 l.length c8) l.length (l.map GBind.toD)) =>
    specUni X ((5 - l.length) * 50000 + (a.sub (bindOf l)).nodes + 1) l A8 c8 a b Aa ca Ab cb W (fun q hq => HX.out q (Nat.le_trans hb.size hq)) (Nat.lt_succ_self _) HU.out HF.out ⟨oka.out.2, hva oka.out.2⟩ ⟨okb.out.2, hvb okb.out.2⟩ txa txb oka.out.1 okb.out.1 (hg.gov (Nat.le_refl _) (fun q hq => HX.out q hq))
      (TA.out.keep fun q hq => ⟨⟨Nat.lt_of_lt_of_le hq hb.size, fun e => by have := (hg.own q e).1; have hq2 : q < w.heap.size := hq; omega⟩, hb.block q hq⟩)
      (TB.out.keep fun q hq => ⟨⟨Nat.lt_of_lt_of_le hq hb.size, fun e => by have := (hg.own q e).1; have hq2 : q < w.heap.size := hq; omega⟩, hb.block q hq⟩))
  clear oa ob
  go_wp2_with fail
  go_region_law (first
    | (go_simp
       go_at_call 44
       refine (HCP.out w3.drew B3.out.drew).mono ?_
       rintro e w4 ⟨A8, c8, rfl, how, hb4⟩
       have hbx := Lib.hid (show Below w3.heap.size w3 w4 from (Below.refl _ _).drew.trans hb4)
       have B4 := Lib.hid (B3.out.trans (hbx.out.mono B3.out.size))
       have RA4 := Lib.hid (RA3.out.below hbx.out RA3.out.lt)
       have RB4 := Lib.hid (RB3.out.below hbx.out RB3.out.lt)
       have how2 : Gow w4 w.heap.size w4.heap.size 46 5 (.slice A8 l.length c8) l.length (l.map GBind.toD) := how.wide B3.out.size
       have hca := fun i => RA4.out.cell i
       have hcb := fun i => RB4.out.cell i
       have hra := RA4.out.lt
       have hrb := RB4.out.lt
       have HG4 := Lib.hid how2
       have HU4 := Lib.hid (HUN.out A8 c8 w4 B4.out how2)
       clear hb4 how how2)
    | (go_simp
       go_at_call 45
       refine HU4.out.mono ?_
       rintro e w5 ⟨v', r, rfl, hrun, hgr, hgov⟩
       have HRUN := Lib.hid hrun
       have HGR := Lib.hid hgr
       have HGV := Lib.hid hgov
       clear hrun hgr hgov))
  all_goals
    have B5 := Lib.hid (B4.out.trans (HGR.out.below B4.out.size (fun g hg => (HG4.out.own g hg).1)))
    rcases r with _ | l'
    · have HNO := Lib.hid (show a.ok = true → b.ok = true → UniR l a b none from fun _ _ => HRUN.out)
      clear HGR HGV HG4 HU4 HRUN
      go_wp2_with fail
      refine (HCP.out w5 B5.out).mono ?_
      rintro e w8 ⟨A8, c8, rfl, how, hb8⟩
      have B8 := Lib.hid (B5.out.trans (hb8.mono B5.out.size))
      have HOW := Lib.hid (fun q h => Nat.le_trans B5.out.size (how.own q h).1)
      have HG8 := Lib.hid (how.gov (X := X) (Nat.le_refl _) (fun q hq => HX.out q (Nat.le_trans B5.out.size hq)))
      clear how hb8
      go_wp2_with fail
      go_ret2
      exact ⟨_, _, l, false, rfl, B8.out, (fun h => by cases h), (fun _ => ⟨rfl, HNO.out⟩), HF.out, HOW.out, HG8.out⟩
    · obtain ⟨hf2, gv⟩ := HGV.out l' rfl
      obtain ⟨A7, c7, rfl⟩ := gv.form
      have HF2 := Lib.hid hf2
      have HG2 := Lib.hid gv
      have HOW := Lib.hid (fun q (h : (Value.slice A7 (List.length l') c7).ownBlock = some q) => show w.heap.size ≤ q by
        rcases HGR.out.own with e | ⟨g, e, hg⟩
        · exact (HG4.out.own q (e.symm.trans h)).1
        · rw [e] at h; cases h; exact Nat.le_trans B4.out.size hg)
      clear hf2 gv HGV HGR HG4 HU4
      go_wp2_with fail
      go_ret2
      exact ⟨_, _, l', true, rfl, B5.out, (fun _ => ⟨HOKA.out, HOKB.out, HRUN.out⟩), (fun h => by cases h), HF2.out, HOW.out, HG2.out⟩
end Go.Proofs.Ytghldoiblbcacaa

/- A drawn type that may be wrong, or great. Conditions: none. -/
namespace Go.Proofs.Ytghldoiblbcacaa
open Go.RowKit
set_option linter.unusedVariables false
set_option linter.unusedSimpArgs false
set_option maxHeartbeats 400000

/-- as the types that are drawn are, wrong ones too -/
def drT5 (t : GTy) : Prop := t.bulk + 2 ≤ 6144 ∧ (∀ n, t.has n = true → -1 ≤ n ∧ n < 5) ∧ t.tx = true ∧ (200 < t.nodes ∨ shT 3 t)
/-- while it grows -/
def drG (j : Nat) (t : GTy) : Prop := t.bulk + 2 ≤ 48 * 2 ^ j ∧ (∀ n, t.has n = true → 0 ≤ n ∧ n < 5) ∧ t.tx = true ∧ (j = 0 → shT 3 t) ∧ 2 ^ (j + 1) ≤ t.nodes + 1
theorem drG_step {j : Nat} {t : GTy} (h : drG j t) : drG (j + 1) (.mk 3 0 ⟨#[]⟩ [t, t]) := by
  refine ⟨?_, fun m hm => ?_, ?_, fun e => by omega, ?_⟩
  · have : (GTy.mk 3 0 ⟨#[]⟩ [t, t]).bulk = t.bulk + t.bulk + 2 := by rw [GTy.bulk_eq]; simp only [GTy.s, GTy.kids, bulkL]; have : (ByteArray.mk #[]).size = 0 := rfl; omega
    have h1 := h.1
    rw [Nat.pow_succ]
    omega
  · rw [GTy.has_eq] at hm
    simp only [GTy.op, GTy.n, GTy.kids, GTy.hasL, Bool.or_false, Bool.or_eq_true, Bool.and_eq_true, beq_iff_eq] at hm
    rcases hm with hm | hm | hm
    · exact absurd hm.1 (by decide)
    · exact h.2.1 m hm
    · exact h.2.1 m hm
  · rw [GTy.tx, GTy.txL, GTy.txL, GTy.txL, h.2.2.1]; rfl
  · have h1 := h.2.2.2.2
    rw [GTy.nodes, GTy.nodesL, GTy.nodesL, GTy.nodesL, Nat.pow_succ]
    omega
theorem drG_zero {t : GTy} (h : drG 0 t) : drT5 t := by
  refine ⟨?_, fun n hn => ⟨by have := (h.2.1 n hn).1; omega, (h.2.1 n hn).2⟩, h.2.2.1, .inr (h.2.2.2.1 rfl)⟩
  have h1 := h.1
  omega
theorem drG_bulk {j : Nat} {t : GTy} (hj : j ≤ 7) (h : drG j t) : t.bulk + 2 ≤ 6144 := by
  have h1 := h.1
  have h2 : 2 ^ j ≤ 2 ^ 7 := Nat.pow_le_pow_right (by omega) hj
  have h3 : (2 : Nat) ^ 7 = 128 := rfl
  omega
theorem drG_done {j : Nat} {t : GTy} (hj : j = 7) (h : drG j t) : drT5 t := by
  refine ⟨drG_bulk (by omega) h, fun n hn => ⟨by have := (h.2.1 n hn).1; omega, (h.2.1 n hn).2⟩, h.2.2.1, .inl ?_⟩
  have h1 := h.2.2.2.2
  subst hj
  have h3 : (2 : Nat) ^ (7 + 1) = 256 := rfl
  omega
theorem drT5_op' {op n x : Int} {s : ByteArray} {kids : List GTy} (h : drG 0 (.mk op n s kids)) (hm : 0 ≤ n ∧ n < 5) : drT5 (.mk x n s kids) := by
  refine ⟨?_, fun m hh => ?_, ?_, .inr (h.2.2.2.1 rfl)⟩
  · have e2 : (GTy.mk x n s kids).bulk = (GTy.mk op n s kids).bulk := by rw [GTy.bulk_eq, GTy.bulk_eq]; rfl
    have := h.1
    omega
  · rw [GTy.has, Bool.or_eq_true, Bool.and_eq_true, beq_iff_eq, beq_iff_eq] at hh
    rcases hh with hh | hh
    · rw [← hh.2]; exact ⟨by omega, hm.2⟩
    · have := h.2.1 m (by rw [GTy.has, hh, Bool.or_true]); omega
  · have := h.2.2.1
    rw [GTy.tx] at this ⊢; exact this
theorem drT5_n' {op n x : Int} {s : ByteArray} {kids : List GTy} (h : drG 0 (.mk op n s kids)) (hx : -1 ≤ x ∧ x < 5) : drT5 (.mk op x s kids) := by
  refine ⟨?_, fun m hh => ?_, ?_, .inr (h.2.2.2.1 rfl)⟩
  · have e2 : (GTy.mk op x s kids).bulk = (GTy.mk op n s kids).bulk := by rw [GTy.bulk_eq, GTy.bulk_eq]; rfl
    have := h.1
    omega
  · rw [GTy.has, Bool.or_eq_true, Bool.and_eq_true, beq_iff_eq, beq_iff_eq] at hh
    rcases hh with hh | hh
    · rw [← hh.2]; exact hx
    · have := h.2.1 m (by rw [GTy.has, hh, Bool.or_true]); omega
  · have := h.2.2.1
    rw [GTy.tx] at this ⊢; exact this
theorem drT5_op {t : GTy} {x : Int} (h : drG 0 t) (hm : 0 ≤ t.n ∧ t.n < 5) : drT5 (.mk x t.n t.s t.kids) := by cases t; exact drT5_op' h hm
theorem drT5_n {t : GTy} {x : Int} (h : drG 0 t) (hx : -1 ≤ x ∧ x < 5) : drT5 (.mk t.op x t.s t.kids) := by cases t; exact drT5_n' h hx
theorem wf1 {n : Int} (h : -1 ≤ n ∧ n < 7) : (Lit.int .i64 n).wf = true := by
  simp [Lit.wf, IntKind.min, IntKind.max, IntKind.signed, IntKind.bits]; omega

set_option maxRecDepth 20000 in
theorem drawTy5 {l : List Int} {A : Option Addr} {c : Nat} {w : World} {g i : Nat} {h : Int} (hc : Cur l A c w g i h) :
    Calls Try.prog 38 #[.pointer (some ⟨g, 0, none⟩)] w (DrawnT l A c g drT5 w) := by
  have hg := hc.row.lt
  have E0 := Lib.hid (show Below w.heap.size w (w.alloc (.cells #[.int .i64 0, .int .i64 0, .string ⟨#[]⟩, .slice none 0 0] 27)) from (Below.refl _ _).alloc (Nat.le_refl _) _)
  have C0 := Lib.hid (hc.below E0.out hg)
  have R0 := Lib.hid (Row.new w 27 #[.int .i64 0, .int .i64 0, .string ⟨#[]⟩, .slice none 0 0])
  have T0 := Lib.hid ((Turned.refl g w).alloc (.cells #[.int .i64 0, .int .i64 0, .string ⟨#[]⟩, .slice none 0 0] 27))
  have hgr : w.heap.size ≠ g := by omega
  clear hc
  go_enter Try.func38, Try.ntmps38
  go_wp2_with fail
  refine (drawTy 3 3 rfl (by omega) C0.out).mono ?_
  rintro e w1 ⟨t, A1, c1, i1, h1, rfl, pt, att, hc1, ht1⟩
  have hs01 : w.heap.size + 1 ≤ w1.heap.size := by have := ht1.size; simpa using this
  have T1 := Lib.hid (T0.out.trans ht1)
  have R1 := Lib.hid (R0.out.turned ht1 hgr)
  obtain ⟨v1, ev1⟩ : ∃ v1, v1 = w1.alloc (.cells #[.int .i64 t.op, .int .i64 t.n, .string t.s, .slice A1 t.kids.length c1] 27) := ⟨_, rfl⟩
  have EV := Lib.hid (show Below w1.heap.size w1 v1 by rw [ev1]; exact (Below.refl _ _).alloc (Nat.le_refl _) _)
  have CV := Lib.hid (hc1.below EV.out hc1.row.lt)
  have TV := Lib.hid (show Turned g w v1 by rw [ev1]; exact T1.out.alloc _)
  have RV := Lib.hid (R1.out.below EV.out R1.out.lt)
  have RT := Lib.hid (show Row v1 w1.heap.size 27 #[.int .i64 t.op, .int .i64 t.n, .string t.s, .slice A1 t.kids.length c1] by rw [ev1]; exact Row.new' _ _ _ rfl)
  have hsv : v1.heap.size = w1.heap.size + 1 := by rw [ev1]; simp
  have hgt : w1.heap.size ≠ g := by have := hc1.row.lt; omega
  have AT := Lib.hid (att.keep (w' := v1) (S' := fun b => (w.heap.size < b ∧ b < v1.heap.size) ∧ b ≠ w1.heap.size) (fun b hb => ⟨⟨⟨by have := hb.1; simp at this; omega, by have := hb.2; omega⟩, by have := hb.2; omega⟩, EV.out.block b hb.2⟩))
  have HN := Lib.hid (show 0 ≤ t.n ∧ t.n < 5 from pt.1.2)
  have PT := Lib.hid (show drG 0 t from ⟨pt.1.1, pt.2.1, pt.2.2.2, fun _ => pt.2.2.1, by have := t.nodes_eq; show 2 ≤ t.nodes + 1; omega⟩)
  have EQV := Lib.hid ev1
  obtain ⟨rt, hrt⟩ : ∃ rt, rt = w1.heap.size := ⟨_, rfl⟩
  rw [← hrt] at RT hgt AT
  have hrt1 : w.heap.size < rt := by omega
  have hrt2 : rt < v1.heap.size := by omega
  have HRT := Lib.hid hrt
  clear hc1 ht1 pt att ev1
  go_wp2_with fail
  rw [← EQV.out]
  refine (drawBelow CV.out 14 (by omega) (by omega)).mono ?_
  rintro e w2 ⟨x, i2, h2, rfl, hx, hc2, ht2⟩
  have C2 := Lib.hid hc2
  have T2 := Lib.hid (TV.out.trans ht2)
  have R2 := Lib.hid (RV.out.turned ht2 hgr)
  have RT2 := Lib.hid (RT.out.turned ht2 hgt)
  have AT2 := Lib.hid (AT.out.keep (w' := w2) (S' := fun b => (w.heap.size < b ∧ b < w2.heap.size) ∧ b ≠ rt) (fun b hb => ⟨⟨⟨hb.1.1, by have := ht2.size; have := hb.1.2; omega⟩, hb.2⟩, ht2.block b hb.1.2 (by have := hb.1.1; omega)⟩))
  have hrt3 : rt < w2.heap.size := by have := ht2.size; omega
  clear hc2 ht2
  rw [← HRT.out]
  clear hrt hs01 hsv hrt2 CV TV RV RT AT EV R0 R1 T0 T1 C0 E0 EQV
  by_cases x0 : x = 0
  · have y0 : (x == 0) = true := beq_iff_eq.2 x0
    clear x0 hx
    go_wp2_with fail
    refine (drawBelow C2.out 7 (by omega) (by omega)).mono ?_
    rintro e w3 ⟨y, i3, h3, rfl, hy, hc3, ht3⟩
    have T3 := Lib.hid (T2.out.trans ht3)
    have R3 := Lib.hid (R2.out.turned ht3 hgr)
    have RT3 := Lib.hid (RT2.out.turned ht3 hgt)
    obtain ⟨V, eV⟩ : ∃ V, V = w3.setCell ⟨rt, 0, none⟩ (.int .i64 (y - 1)) := ⟨_, rfl⟩
    have TV := Lib.hid (show Turned rt w3 V by rw [eV]; exact (Turned.refl _ _).setCell _ _)
    have RTV := Lib.hid (show Row V rt 27 #[.int .i64 (y - 1), .int .i64 t.n, .string t.s, .slice A1 t.kids.length c1] by rw [eV]; exact RT3.out.set 0 _)
    have RV := Lib.hid (R3.out.turned TV.out (by omega))
    have CV := Lib.hid (hc3.turned TV.out (by omega))
    have TGV := Lib.hid (show Turned g w V from ⟨TV.out.os.trans T3.out.os, TV.out.tape.trans T3.out.tape, TV.out.output.trans T3.out.output, Nat.le_trans T3.out.size TV.out.size, fun k hk hkg => (TV.out.block k (Nat.lt_of_lt_of_le hk T3.out.size) (by omega)).trans (T3.out.block k hk hkg)⟩)
    have hs23 := ht3.size
    have hsV := TV.out.size
    have ATV := Lib.hid (show GTy.At V (fun b => (w.heap.size < b ∧ b < V.heap.size) ∧ b ≠ rt) A1 c1 (GTy.mk (y - 1) t.n t.s t.kids) from by
      have a := AT2.out.keep (w' := V) (S' := fun b => (w.heap.size < b ∧ b < V.heap.size) ∧ b ≠ rt) (fun b hb => ⟨⟨⟨hb.1.1, by have := hb.1.2; omega⟩, hb.2⟩, (TV.out.block b (by have := hb.1.2; omega) hb.2).trans (ht3.block b hb.1.2 (by have := hb.1.1; omega))⟩)
      exact ⟨show (Lit.int .i64 (y - 1)).wf = true from wf1 ⟨by omega, by omega⟩, a.2.1, a.2.2.1, a.2.2.2⟩)
    have hwr : IntKind.i64.wrap (y - 1) = y - 1 := by rw [IntKind.wrap_i64]; omega
    have EQV := Lib.hid eV
    have hct := fun i => RT3.out.cell i
    have hft := fun i => RT3.out.frozen i
    have hcz3 := fun i => R3.out.cell i
    have hfz3 := fun i => R3.out.frozen i
    have hne1 : rt ≠ w.heap.size := by omega
    have hne2 : w.heap.size ≠ rt := by omega
    have hcz := fun i => RV.out.cell i
    have hfz := fun i => RV.out.frozen i
    have hca := fun i => RTV.out.cell i
    have FIN := Lib.hid (drawn_fin (r := w.heap.size) (t := (GTy.mk (y - 1) t.n t.s t.kids)) (P := drT5) (vs := [.int .i64 (y - 1), .int .i64 t.n, .string t.s, .slice A1 t.kids.length c1]) (drT5_op PT.out HN.out) CV.out TGV.out hg (Nat.le_refl _) (ATV.out.keep (fun b hb => ⟨⟨⟨Nat.le_of_lt hb.1.1, hb.1.2⟩, by have := hb.1.1; omega⟩, rfl⟩)))
    clear hc3 ht3 eV
    go_wp2_with fail
    rw [← EQV.out]
    exact bodyPost_ret (v := .agg #[.int .i64 (y - 1), .int .i64 t.n, .string t.s, .slice A1 t.kids.length c1]) (by simp [results, Try.results38, go_sem, hcz, hca]) rfl FIN.out
  by_cases x1 : x = 1
  · have y0 : (x == 0) = false := beq_eq_false_iff_ne.2 (by omega)
    have y1 : (x == 1) = true := beq_iff_eq.2 x1
    clear x0 x1 hx
    go_wp2_with fail
    refine (drawBelow C2.out 3 (by omega) (by omega)).mono ?_
    rintro e w3 ⟨y, i3, h3, rfl, hy, hc3, ht3⟩
    have T3 := Lib.hid (T2.out.trans ht3)
    have R3 := Lib.hid (R2.out.turned ht3 hgr)
    have RT3 := Lib.hid (RT2.out.turned ht3 hgt)
    obtain ⟨V, eV⟩ : ∃ V, V = w3.setCell ⟨rt, 1, none⟩ (.int .i64 (y - 1)) := ⟨_, rfl⟩
    have TV := Lib.hid (show Turned rt w3 V by rw [eV]; exact (Turned.refl _ _).setCell _ _)
    have RTV := Lib.hid (show Row V rt 27 #[.int .i64 t.op, .int .i64 (y - 1), .string t.s, .slice A1 t.kids.length c1] by rw [eV]; exact RT3.out.set 1 _)
    have RV := Lib.hid (R3.out.turned TV.out (by omega))
    have CV := Lib.hid (hc3.turned TV.out (by omega))
    have TGV := Lib.hid (show Turned g w V from ⟨TV.out.os.trans T3.out.os, TV.out.tape.trans T3.out.tape, TV.out.output.trans T3.out.output, Nat.le_trans T3.out.size TV.out.size, fun k hk hkg => (TV.out.block k (Nat.lt_of_lt_of_le hk T3.out.size) (by omega)).trans (T3.out.block k hk hkg)⟩)
    have hs23 := ht3.size
    have hsV := TV.out.size
    have ATV := Lib.hid (show GTy.At V (fun b => (w.heap.size < b ∧ b < V.heap.size) ∧ b ≠ rt) A1 c1 (GTy.mk t.op (y - 1) t.s t.kids) from by
      have a := AT2.out.keep (w' := V) (S' := fun b => (w.heap.size < b ∧ b < V.heap.size) ∧ b ≠ rt) (fun b hb => ⟨⟨⟨hb.1.1, by have := hb.1.2; omega⟩, hb.2⟩, (TV.out.block b (by have := hb.1.2; omega) hb.2).trans (ht3.block b hb.1.2 (by have := hb.1.1; omega))⟩)
      exact ⟨a.1, show (Lit.int .i64 (y - 1)).wf = true from wf1 ⟨by omega, by omega⟩, a.2.2.1, a.2.2.2⟩)
    have hwr : IntKind.i64.wrap (y - 1) = y - 1 := by rw [IntKind.wrap_i64]; omega
    have EQV := Lib.hid eV
    have hct := fun i => RT3.out.cell i
    have hft := fun i => RT3.out.frozen i
    have hcz3 := fun i => R3.out.cell i
    have hfz3 := fun i => R3.out.frozen i
    have hne1 : rt ≠ w.heap.size := by omega
    have hne2 : w.heap.size ≠ rt := by omega
    have hcz := fun i => RV.out.cell i
    have hfz := fun i => RV.out.frozen i
    have hca := fun i => RTV.out.cell i
    have FIN := Lib.hid (drawn_fin (r := w.heap.size) (t := (GTy.mk t.op (y - 1) t.s t.kids)) (P := drT5) (vs := [.int .i64 t.op, .int .i64 (y - 1), .string t.s, .slice A1 t.kids.length c1]) (drT5_n PT.out ⟨by omega, by omega⟩) CV.out TGV.out hg (Nat.le_refl _) (ATV.out.keep (fun b hb => ⟨⟨⟨Nat.le_of_lt hb.1.1, hb.1.2⟩, by have := hb.1.1; omega⟩, rfl⟩)))
    clear hc3 ht3 eV
    go_wp2_with fail
    rw [← EQV.out]
    exact bodyPost_ret (v := .agg #[.int .i64 t.op, .int .i64 (y - 1), .string t.s, .slice A1 t.kids.length c1]) (by simp [results, Try.results38, go_sem, hcz, hca]) rfl FIN.out
  by_cases x2 : x = 2
  · have y0 : (x == 0) = false := beq_eq_false_iff_ne.2 (by omega)
    have y1 : (x == 1) = false := beq_eq_false_iff_ne.2 (by omega)
    have y2 : (x == 2) = true := beq_iff_eq.2 x2
    clear x0 x1 x2 hx
    go_wp2_with fail
    go_loopw [4] (fun i wr => ∃ (j : Nat) (u : GTy) (B1 : Option Addr) (d1 : Nat) (iv : Nat) (hv : Int), j ≤ 7 ∧ i = .int .i64 j ∧ Hid (drG j u) ∧ Hid (Row wr rt 27 #[.int .i64 u.op, .int .i64 u.n, .string u.s, .slice B1 u.kids.length d1]) ∧ Hid (Row wr w.heap.size 27 #[.int .i64 0, .int .i64 0, .string ⟨#[]⟩, .slice none 0 0]) ∧ Hid (GTy.At wr (fun b => (w.heap.size < b ∧ b < wr.heap.size) ∧ b ≠ rt) B1 d1 u) ∧ Hid (Cur l A c wr g iv hv) ∧ Hid (Turned g w wr)) (fun i _ => 7 - (intOf i).toNat)
    case atStart => exact ⟨0, t, A1, c1, i2, h2, by omega, by go_num, PT, RT2, R2, AT2, C2, T2⟩
    case round =>
      clear PT RT2 R2 AT2 C2 T2
      obtain ⟨j, u, B1, d1, iv, hv, hj, rfl, PU, RU, RZ, AU, CU, TU⟩ := hrel
      have hrl := RU.out.lt
      have hzl := RZ.out.lt
      have hca := fun i => RU.out.cell i
      by_cases hlt : j < 7
      · obtain ⟨wb, eb⟩ : ∃ wb, wb = wr.alloc (.cells #[.int .i64 u.op, .int .i64 u.n, .string u.s, .slice B1 u.kids.length d1] 27) := ⟨_, rfl⟩
        have EB := Lib.hid (show Below wr.heap.size wr wb by rw [eb]; exact (Below.refl _ _).alloc (Nat.le_refl _) _)
        have RB := Lib.hid (show Row wb wr.heap.size 27 #[.int .i64 u.op, .int .i64 u.n, .string u.s, .slice B1 u.kids.length d1] by rw [eb]; exact Row.new' _ _ _ rfl)
        have hsb : wb.heap.size = wr.heap.size + 1 := by rw [eb]; simp
        have RUb := Lib.hid (RU.out.below EB.out hrl)
        have RZb := Lib.hid (RZ.out.below EB.out hzl)
        have hcb := fun i => RB.out.cell i
        have hnb : wr.heap.size ≠ rt := by omega
        have hcbd : ∀ i, wb.drew.cell? ⟨wr.heap.size, i, none⟩ = (#[.int .i64 u.op, .int .i64 u.n, .string u.s, .slice B1 u.kids.length d1] : Array Value)[i]? := hcb
        have hcu := fun i => RUb.out.cell i
        have hub : u.bulk ≤ 1048576 := by have := drG_bulk (by omega : j ≤ 7) PU.out; omega
        have AB := Lib.hid (AU.out.keep (w' := wb) (S' := Lt wb.heap.size) (fun b hb => ⟨by have := hb.1.2; unfold Lt; omega, EB.out.block b hb.1.2⟩))
        have HCP := Lib.hid (fun (n : Nat) => specTyCopy' u B1 d1 (wb.drewN n) hub (AB.out.keep fun q hq => ⟨hq, rfl⟩))
        have HCD := Lib.hid (specTyCopy' u B1 d1 wb.drew hub (AB.out.keep fun q hq => ⟨hq, rfl⟩))
        have EQB := Lib.hid eb
        clear eb
        go_wp2_with fail
        rw [← EQB.out]
        go_region_held3 (fun w' => ∀ i, w'.cell? ⟨wr.heap.size, i, none⟩ = (#[.int .i64 u.op, .int .i64 u.n, .string u.s, .slice B1 u.kids.length d1] : Array Value)[i]?) (first | with_reducible exact hcbd | with_reducible exact hcb3 | with_reducible exact hcb4 _ | with_reducible exact hcb5 _ _ _ _ _ | go_keep) (first
          | (go_at_call 54
             refine HCD.out.mono ?_
             rintro e w3 ⟨A3, c3, rfl, how, hb3⟩
             have B3 := Lib.hid (show Below wb.heap.size wb w3 from ((Below.refl wb.heap.size wb).drew).trans hb3)
             have RB3 := Lib.hid (RB.out.below B3.out RB.out.lt)
             have hcb3 := fun i => RB3.out.cell i
             have RU3 := Lib.hid (RUb.out.below B3.out RUb.out.lt)
             have hct3 := fun i => RU3.out.cell i
             have hft3 := fun i => RU3.out.frozen i
             have OW3 := Lib.hid how.at
             have hcb4 : ∀ (o : Obj) (i : Nat), (w3.alloc o).cell? ⟨wr.heap.size, i, none⟩ = (#[.int .i64 u.op, .int .i64 u.n, .string u.s, .slice B1 u.kids.length d1] : Array Value)[i]? := fun o i => (RB3.out.alloc o).cell i
             have hcb5 : ∀ (a b c d : Value) (o : Obj) (i : Nat), (((((w3.setCell ⟨rt, 0, none⟩ a).setCell ⟨rt, 1, none⟩ b).setCell ⟨rt, 2, none⟩ c).setCell ⟨rt, 3, none⟩ d).alloc o).cell? ⟨wr.heap.size, i, none⟩ = (#[.int .i64 u.op, .int .i64 u.n, .string u.s, .slice B1 u.kids.length d1] : Array Value)[i]? := fun a b c d o i => (((((RB3.out.far (p := ⟨rt, 0, none⟩) hnb _).far (p := ⟨rt, 1, none⟩) hnb _).far (p := ⟨rt, 2, none⟩) hnb _).far (p := ⟨rt, 3, none⟩) hnb _).alloc _).cell i
             have hrt9 : rt < w3.heap.size := RU3.out.lt
             have hrt8 : rt ≠ w3.heap.size := by omega
             clear hb3 how))
        obtain ⟨V, eV⟩ : ∃ V, V = setCells w3 rt 0 [.int .i64 3, .int .i64 0, .string ⟨#[]⟩, .slice (some ⟨w3.heap.size, 0, none⟩) 2 2] := ⟨_, rfl⟩
        have TV := Lib.hid (show Turned rt w3 V by rw [eV]; exact setCells_turned _ _ _ _)
        have SV : V.heap.size = w3.heap.size := by rw [eV, setCells_size]
        have RTV := Lib.hid (show Row V rt 27 #[.int .i64 3, .int .i64 0, .string ⟨#[]⟩, .slice (some ⟨w3.heap.size, 0, none⟩) 2 2] by rw [eV]; exact (((RU3.out.set 0 _).set 1 _).set 2 _).set 3 _)
        obtain ⟨W, eW⟩ : ∃ W, W = V.alloc (.cells #[.int .i64 u.op, .int .i64 u.n, .string u.s, .slice B1 u.kids.length d1, .int .i64 u.op, .int .i64 u.n, .string u.s, .slice A3 u.kids.length c3] 27) := ⟨_, rfl⟩
        have EW := Lib.hid (show Below V.heap.size V W by rw [eW]; exact (Below.refl _ _).alloc (Nat.le_refl _) _)
        have RW := Lib.hid (show Row W w3.heap.size 27 #[.int .i64 u.op, .int .i64 u.n, .string u.s, .slice B1 u.kids.length d1, .int .i64 u.op, .int .i64 u.n, .string u.s, .slice A3 u.kids.length c3] by rw [eW, ← SV]; exact Row.new' _ _ _ rfl)
        have hsW : W.heap.size = w3.heap.size + 1 := by rw [eW]; simp [SV]
        have hs3 := B3.out.size
        have RTW := Lib.hid (RTV.out.below EW.out (by omega))
        have RZW := Lib.hid (((RZb.out.below B3.out RZb.out.lt).turned TV.out (by omega)).below EW.out (by omega))
        have CW := Lib.hid ((((CU.out.below EB.out CU.out.row.lt).below B3.out (by have := CU.out.row.lt; omega)).turned TV.out (by omega)).below EW.out (by have := CU.out.row.lt; omega))
        have BW3 := Lib.hid (show Below wr.heap.size wr w3 from EB.out.trans (B3.out.mono (by omega)))
        have TW := Lib.hid (show Turned g w W from ⟨((EW.out.os.trans TV.out.os).trans BW3.out.os).trans TU.out.os, ((EW.out.tape.trans TV.out.tape).trans BW3.out.tape).trans TU.out.tape, ((EW.out.output.trans TV.out.output).trans BW3.out.output).trans TU.out.output, by have := TU.out.size; omega, fun k hk hkg => by
          have h1 := TU.out.size
          exact (((EW.out.block k (by omega)).trans (TV.out.block k (by omega) (by omega))).trans (BW3.out.block k (by omega))).trans (TU.out.block k hk hkg)⟩)
        have A1W := Lib.hid (AU.out.keep (w' := W) (S' := fun b => (w.heap.size < b ∧ b < W.heap.size) ∧ b ≠ rt) (fun b hb => ⟨⟨⟨hb.1.1, by have := hb.1.2; omega⟩, hb.2⟩, ((EW.out.block b (by have := hb.1.2; omega)).trans (TV.out.block b (by have := hb.1.2; omega) hb.2)).trans (BW3.out.block b hb.1.2)⟩))
        have A2W := Lib.hid (OW3.out.keep (w' := W) (S' := fun b => (w.heap.size < b ∧ b < W.heap.size) ∧ b ≠ rt) (fun b hb => by
          have h1 : wb.heap.size ≤ b := hb.1
          have h2 := hb.2
          exact ⟨⟨⟨by omega, by omega⟩, by omega⟩, (EW.out.block b (by omega)).trans (TV.out.block b (by omega) (by omega))⟩))
        have ATW := Lib.hid (show GTy.At W (fun b => (w.heap.size < b ∧ b < W.heap.size) ∧ b ≠ rt) (some ⟨w3.heap.size, 0, none⟩) 2 (.mk 3 0 ⟨#[]⟩ [u, u]) from
          ⟨show (Lit.int .i64 3).wf = true by decide, show (Lit.int .i64 0).wf = true by decide, show (ByteArray.mk #[]).size ≤ maxLen by decide, slTwoTy RW.out A1W.out A2W.out ⟨⟨by omega, by omega⟩, by omega⟩⟩)
        have EQW := Lib.hid (show W = ((((w3.setCell ⟨rt, 0, none⟩ (.int .i64 3)).setCell ⟨rt, 1, none⟩ (.int .i64 0)).setCell ⟨rt, 2, none⟩ (.string ⟨#[]⟩)).setCell ⟨rt, 3, none⟩ (.slice (some ⟨w3.heap.size, 0, none⟩) 2 2)).alloc (.cells #[.int .i64 u.op, .int .i64 u.n, .string u.s, .slice B1 u.kids.length d1, .int .i64 u.op, .int .i64 u.n, .string u.s, .slice A3 u.kids.length c3] 27) by rw [eW, eV]; rfl)
        have PG := Lib.hid (drG_step PU.out)
        clear eV eW
        go_wp2_with fail
        go_roundw
        case rel => rw [← EQW.out]; exact ⟨j + 1, .mk 3 0 ⟨#[]⟩ [u, u], some ⟨w3.heap.size, 0, none⟩, 2, iv, hv, by omega, by go_num, PG, RTW, RZW, ATW, CW, TW⟩
        case measure => simp [intOf]; omega
      · have hcz := fun i => RZ.out.cell i
        have hfz := fun i => RZ.out.frozen i
        have FIN := Lib.hid (drawn_fin (r := w.heap.size) (t := u) (P := drT5) (vs := [.int .i64 u.op, .int .i64 u.n, .string u.s, .slice B1 u.kids.length d1]) (drG_done (by omega) PU.out) CU.out TU.out hg (Nat.le_refl _) (AU.out.keep (fun b hb => ⟨⟨⟨Nat.le_of_lt hb.1.1, hb.1.2⟩, by have := hb.1.1; omega⟩, rfl⟩)))
        go_wp2_with fail
        exact bodyPost_ret (v := .agg #[.int .i64 u.op, .int .i64 u.n, .string u.s, .slice B1 u.kids.length d1]) (by simp [results, Try.results38, go_sem, hcz, hca]) rfl FIN.out
  have y0 : (x == 0) = false := beq_eq_false_iff_ne.2 (by omega)
  have y1 : (x == 1) = false := beq_eq_false_iff_ne.2 (by omega)
  have y2 : (x == 2) = false := beq_eq_false_iff_ne.2 (by omega)
  clear x0 x1 x2 hx
  have hcz := fun i => R2.out.cell i
  have hfz := fun i => R2.out.frozen i
  have hca := fun i => RT2.out.cell i
  have FIN := Lib.hid (drawn_fin (r := w.heap.size) (t := t) (P := drT5) (vs := [.int .i64 t.op, .int .i64 t.n, .string t.s, .slice A1 t.kids.length c1]) (drG_zero PT.out) C2.out T2.out hg (Nat.le_refl _) (AT2.out.keep (fun b hb => ⟨⟨⟨Nat.le_of_lt hb.1.1, hb.1.2⟩, by have := hb.1.1; omega⟩, rfl⟩)))
  go_wp2_with fail
  exact bodyPost_ret (v := .agg #[.int .i64 t.op, .int .i64 t.n, .string t.s, .slice A1 t.kids.length c1]) (by simp [results, Try.results38, go_sem, hcz, hca]) rfl FIN.out
end Go.Proofs.Ytghldoiblbcacaa

/- A drawn substitution. Conditions: none. -/
namespace Go.Proofs.Ytghldoiblbcacaa
open Go.RowKit
set_option linter.unusedVariables false
set_option linter.unusedSimpArgs false
set_option maxHeartbeats 600000

/-- made by so many runs of Unify on drawn types -/
inductive Made : Nat → List GBind → Prop
  | nil : Made 0 []
  | skip {k : Nat} {l : List GBind} : Made k l → Made (k + 1) l
  | step {k : Nat} {l l' : List GBind} {a b : GTy} : Made k l → drT 1 a → drT 2 b → a.ok = true → b.ok = true → UniR l a b (some l') → Made (k + 1) l'
theorem Made.more {k : Nat} {l : List GBind} (h : Made k l) : ∀ j, Made (k + j) l
  | 0 => h
  | j + 1 => .skip (Made.more h j)
/-- as the substitutions that are drawn are -/
def drSub (l : List GBind) : Prop := ∃ l0, Made 3 l0 ∧ Uni V5 l0 ∧ FewL l0 ∧ (l = l0 ∨ (∃ n U, l = l0 ++ [⟨n, U⟩] ∧ (0 ≤ n ∧ n < 4) ∧ drT 2 U) ∨ l = l0 ++ [⟨-1, .mk 0 0 ⟨#[]⟩ []⟩])
/-- a substitution is drawn -/
def DrawnSub (l : List Int) (A : Option Addr) (c : Nat) (g : Nat) (w : World) (e : Ending) (w' : World) : Prop :=
  ∃ (s : List GBind) (A1 : Option Addr) (c1 : Nat) (i : Nat) (h : Int), e = .returned (.slice A1 s.length c1) ∧ drSub s ∧ Sl w' (Btw w.heap.size w'.heap.size) 5 A1 c1 (s.map GBind.toD) ∧ Cur l A c w' g i h ∧ Turned g w w'
theorem Gov.turned {X : Nat → Prop} {w w' : World} {e : TypeId} {size : Nat} {v : Value} {n : Nat} {xs : List D} {g : Nat} (h : Gov X w e size v n xs) (ht : Turned g w w') (hX : ∀ b, X b → b ≠ g) (hv : v.ownBlock ≠ some g) : Gov X w' e size v n xs := by
  obtain ⟨h1, cs, h2, h4⟩ := h
  refine ⟨h1, cs, ?_, rdC_keep (fun b hb => ⟨⟨⟨Nat.lt_of_lt_of_le hb.1.1 ht.size, hb.1.2⟩, hb.2⟩, ht.block b hb.1.1 (hX b hb.2)⟩) xs cs h4⟩
  refine ⟨h2.1, ?_⟩
  have hlt := h2.lt
  rcases h2.2 with h | ⟨q, cap, cur, rfl, a1, a2, a3⟩
  · exact .inl h
  · exact .inr ⟨q, cap, cur, rfl, a1, (ht.block q (hlt q rfl).2 (fun e => hv (by rw [← e]; rfl))).trans a2, a3⟩

theorem Cur.drew {l : List Int} {A : Option Addr} {c : Nat} {w : World} {g i : Nat} {h : Int} (hc : Cur l A c w g i h) : Cur l A c w.drew g i h := ⟨hc.row, hc.le, hc.fit, hc.code.keep fun b hb => ⟨hb, rfl⟩⟩
theorem drT_tx {d : Nat} {t : GTy} (h : drT d t) : t.tx = true := h.2.2.2
theorem drT_vars {d : Nat} {t : GTy} (h : drT d t) : ∀ m, t.has m = true → V5 m := h.2.1

theorem Gov.lt {X : Nat → Prop} {w : World} {e : TypeId} {size : Nat} {v : Value} {n : Nat} {xs : List D} (h : Gov X w e size v n xs) {g : Nat} (hg : v.ownBlock = some g) : 0 ≤ g ∧ g < w.heap.size := by
  obtain ⟨h1, cs, h2, h4⟩ := h
  exact h2.lt g hg

theorem Turned.then_below {g : Nat} {w w1 w2 : World} (h : Turned g w w1) (hb : Below w.heap.size w1 w2) : Turned g w w2 :=
  ⟨hb.os.trans h.os, hb.tape.trans h.tape, hb.output.trans h.output, Nat.le_trans h.size hb.size, fun k hk hkg => (hb.block k hk).trans (h.block k hk hkg)⟩
theorem Gov.slBtw {X : Nat → Prop} {w : World} {e : TypeId} {size B : Nat} {A : Option Addr} {k c n : Nat} {xs : List D} (h : Gov X w e size (.slice A k c) n xs) (hX : ∀ b, X b → B ≤ b) (hO : ∀ q, (Value.slice A k c).ownBlock = some q → B ≤ q) : Sl w (Btw B w.heap.size) size A c xs := by
  obtain ⟨h1, cs, h2, h4⟩ := h
  have hlt := h2.lt
  rcases h2.2 with ⟨h0, h⟩ | ⟨g, cap, cur, h0, a1, a2, a3, a4, a5, a6⟩
  · cases h0
    have : xs = [] := List.eq_nil_of_length_eq_zero (by omega)
    subst this
    exact Sl.nil (by unfold maxLen; omega)
  · cases h0
    refine ⟨by omega, a4, .inr ⟨g, 0, rfl, ⟨hO g rfl, (hlt g rfl).2⟩, ?_⟩⟩
    refine rdC_row xs cs 0 (fun j v hj => ?_) (rdC_keep (fun b hb => ⟨⟨hX b hb.2, hb.1.1⟩, rfl⟩) xs cs h4)
    rw [Nat.zero_add, Row.cell (t := e) (cs := cur) a2]
    rw [← a6, List.getElem?_take] at hj
    split at hj
    · simpa using hj
    · cases hj

set_option maxRecDepth 20000 in
theorem drawSub {l : List Int} {A : Option Addr} {c : Nat} {w : World} {g i : Nat} {h : Int} (hc : Cur l A c w g i h) :
    Calls Try.prog 37 #[.pointer (some ⟨g, 0, none⟩)] w (DrawnSub l A c g w) := by
  have hg := hc.row.lt
  have C0 := Lib.hid hc
  obtain ⟨w0, e0⟩ : ∃ w0, w0 = w.alloc (.cells #[] 46) := ⟨_, rfl⟩
  have hs0 : w0.heap.size = w.heap.size + 1 := by rw [e0]; simp
  have T0 := Lib.hid (show Turned g w w0 by rw [e0]; exact (Turned.refl _ _).alloc _)
  have CC0 := Lib.hid (show Cur l A c w0 g i h by rw [e0]; exact hc.below ((Below.refl w.heap.size _).alloc (Nat.le_refl _) _) hg)
  have G0 := Lib.hid (show Gov (fun b => w.heap.size ≤ b) w0 46 5 (.slice (some ⟨w.heap.size, 0, none⟩) 0 0) 0 [] from
    (Gow.made (B := w.heap.size) (m := w0.heap.size) (by rw [e0]; exact Row.new' _ _ _ rfl) (Nat.le_refl _) (by omega)).gov (Nat.le_refl _) (fun b hb => hb))
  have EQ := Lib.hid e0
  have H00 := Lib.hid (fun q (hq : (Value.slice (some ⟨w.heap.size, 0, none⟩) 0 0).ownBlock = some q) => show w.heap.size ≤ q by
    have e : w.heap.size = q := by simpa [Value.ownBlock] using hq
    omega)
  clear hc e0
  go_enter Try.func37, Try.ntmps37
  go_wp2_with fail
  rw [← EQ.out]
  go_loopw [3, 4] (fun v iv wr => ∃ (j : Nat) (sl : List GBind) (As : Option Addr) (cs : Nat) (i' : Nat) (h' : Int), j ≤ 3 ∧ iv = .int .i64 j ∧ v = .slice As sl.length cs ∧ Hid (Made j sl) ∧ Hid (Uni V5 sl ∧ FewL sl) ∧ Hid (Gov (fun b => w.heap.size ≤ b) wr 46 5 (.slice As sl.length cs) sl.length (sl.map GBind.toD)) ∧ Hid (∀ q, (Value.slice As sl.length cs).ownBlock = some q → w.heap.size ≤ q) ∧ Hid (Cur l A c wr g i' h') ∧ Hid (Turned g w wr)) (fun _ iv _ => 3 - (intOf iv).toNat)
  case atStart => exact ⟨0, [], _, _, i, h, by omega, by go_num, rfl, Lib.hid .nil, Lib.hid ⟨Uni.nil _, fun x hx => by simp at hx⟩, G0, H00, CC0, T0⟩
  case round =>
    clear G0 T0 CC0
    obtain ⟨j, sl, As, cs, i', h', hj, rfl, rfl, HM, HUF, HG, HO, HC, HT⟩ := hrel
    go_wp2_with fail
    refine (drawBelow HC.out 4 (by omega) (by omega)).mono ?_
    rintro e w1 ⟨x, i1, h1, rfl, hx, hc1, ht1⟩
    have C1 := Lib.hid hc1
    have T1 := Lib.hid (HT.out.trans ht1)
    have G1 := Lib.hid (HG.out.turned ht1 (fun b hb => by omega) (fun e => by have := HO.out g e; omega))
    clear hc1 ht1 HC HT HG
    by_cases hjx : (j : Int) < x
    · have hd : decide ((j : Int) < x) = true := decide_eq_true hjx
      have hj2 : j ≤ 2 := by omega
      clear hx
      go_wp2_with fail
      refine (drawTy 1 1 rfl (by omega) C1.out).mono ?_
      rintro e w2 ⟨ta, Aa, ca, i2, h2, rfl, pa, ata, hc2, ht2⟩
      have PA := Lib.hid pa
      have ATA := Lib.hid (show GTy.At w2 (Btw w.heap.size w2.heap.size) Aa ca ta from ata.keep (fun q hq => ⟨⟨Nat.le_trans T1.out.size hq.1, hq.2⟩, rfl⟩))
      have C2 := Lib.hid hc2
      have TT2 := Lib.hid ht2
      have G2 := Lib.hid (G1.out.turned TT2.out (fun b hb => by omega) (fun e => by have := HO.out g e; omega))
      clear pa ata hc2 ht2
      go_wp2_with fail
      refine (drawTy 2 2 rfl (by omega) C2.out).mono ?_
      rintro e w3 ⟨tb, Ab, cb, i3, h3, rfl, pb, atb, hc3, ht3⟩
      have PB := Lib.hid pb
      have C3 := Lib.hid hc3
      have T3 := Lib.hid ((T1.out.trans TT2.out).trans ht3)
      have G3 := Lib.hid (G2.out.turned ht3 (fun b hb => by omega) (fun e => by have := HO.out g e; omega))
      have HUN := Lib.hid (specUnify (fun b => w.heap.size ≤ b) sl As cs ta tb Aa ca Ab cb w3 (fun b hb => Nat.le_trans T3.out.size hb) HUF.out.1 HUF.out.2 (fun _ => drT_vars PA.out) (fun _ => drT_vars pb) (drT_tx PA.out) (drT_tx pb) (by have := PA.out.1.1; omega) (by have := pb.1.1; omega) G3.out.sl
        (ATA.out.keep fun q hq => ⟨Nat.lt_of_lt_of_le hq.2 ht3.size, ht3.block q hq.2 (by have := hq.1; omega)⟩) (atb.keep fun q hq => ⟨hq.2, rfl⟩))
      clear pb atb hc3 ht3
      go_wp2_with fail
      refine HUN.out.mono ?_
      rintro e w4 ⟨A4, c4, l', ok, rfl, hb4, hyes, hno, hfew, how4, hgv⟩
      have B4 := Lib.hid hb4
      have HYES := Lib.hid hyes
      have HFEW := Lib.hid hfew
      have HO4 := Lib.hid (fun q h => Nat.le_trans T3.out.size (how4 q h))
      have HGV := Lib.hid hgv
      clear hb4 hyes hno hfew how4 hgv
      ·
        have T4 := Lib.hid (show Turned g w w4 from ⟨B4.out.os.trans T3.out.os, B4.out.tape.trans T3.out.tape, B4.out.output.trans T3.out.output, Nat.le_trans T3.out.size B4.out.size, fun k hk hkg => (B4.out.block k (Nat.lt_of_lt_of_le hk T3.out.size)).trans (T3.out.block k hk hkg)⟩)
        have C4 := Lib.hid (C3.out.below B4.out C3.out.row.lt)
        have G4 := Lib.hid (G3.out.below B4.out)
        cases ok
        · clear HGV HYES HFEW HO4 G3 G2 C3 C2 T3
          go_wp2_with fail
          go_roundw
          case rel => exact ⟨j + 1, sl, As, cs, i3, h3, by omega, by go_num, rfl, Lib.hid (.skip HM.out), HUF, G4, HO, C4, T4⟩
          case measure => simp [intOf]; omega
        · obtain ⟨oka, okb, hrun⟩ := HYES.out rfl
          have HM2 := Lib.hid (Made.step HM.out PA.out PB.out oka okb hrun)
          have oka2 : ta.okS = true := by unfold GTy.ok at oka; rw [Bool.and_eq_true] at oka; exact oka.2
          have okb2 : tb.okS = true := by unfold GTy.ok at okb; rw [Bool.and_eq_true] at okb; exact okb.2
          have HU2 := Lib.hid (hrun.sound HUF.out.1 ⟨oka2, drT_vars PA.out⟩ ⟨okb2, drT_vars PB.out⟩ l' rfl).1
          clear hrun oka okb oka2 okb2 G4 G3 G2 C3 C2 T3
          go_wp2_with fail
          go_roundw
          case rel => exact ⟨j + 1, l', A4, c4, i3, h3, by omega, by go_num, rfl, HM2, Lib.hid ⟨HU2.out, HFEW.out⟩, HGV, HO4, C4, T4⟩
          case measure => simp [intOf]; omega
    · have hd : decide ((j : Int) < x) = false := decide_eq_false hjx
      have HM3 := Lib.hid (show Made 3 sl by have := HM.out.more (3 - j); rwa [show j + (3 - j) = 3 by omega] at this)
      clear HM hjx hx
      go_wp2_with fail
      refine (drawBelow C1.out 12 (by omega) (by omega)).mono ?_
      rintro e w2 ⟨y, i2, h2, rfl, hy, hc2, ht2⟩
      have C2 := Lib.hid hc2
      have T2 := Lib.hid (T1.out.trans ht2)
      have G2 := Lib.hid (G1.out.turned ht2 (fun b hb => by omega) (fun e => by have := HO.out g e; omega))
      clear hc2 ht2 C1 T1 G1
      by_cases y0 : y = 0
      · have z0 : (y == 0) = true := beq_iff_eq.2 y0
        clear y0 hy
        go_wp2_with fail
        refine (drawBelow C2.out 4 (by omega) (by omega)).mono ?_
        rintro e w3 ⟨n, i3, h3, rfl, hn, hc3, ht3⟩
        have C3 := Lib.hid hc3
        have T3 := Lib.hid (T2.out.trans ht3)
        have G3 := Lib.hid (G2.out.turned ht3 (fun b hb => by omega) (fun e => by have := HO.out g e; omega))
        have HN := Lib.hid hn
        clear hc3 ht3 C2 T2 G2
        go_wp2_with fail
        refine (drawTy 2 2 rfl (by omega) C3.out).mono ?_
        rintro e w4 ⟨tu, Au, cu, i4, h4, rfl, pu, atu, hc4, ht4⟩
        have C4 := Lib.hid hc4
        have T4 := Lib.hid (T3.out.trans ht4)
        have G4 := Lib.hid (G3.out.turned ht4 (fun b hb => by omega) (fun e => by have := HO.out g e; omega))
        have N4 := Lib.hid (HO.out)
        have HD := Lib.hid (GBind.rd_mk (w := w4) (S := OffX (fun b => w.heap.size ≤ b) w4 (.slice As sl.length cs)) (t := GBind.mk n tu) (A1 := Au) (c1 := cu) ⟨smallWf (n := n) ⟨hn.1, by omega⟩, atu.keep fun q hq => ⟨⟨⟨hq.2, fun e => by have h1 : w3.heap.size ≤ q := hq.1; have := (G3.out.lt e).2; omega⟩, Nat.le_trans T3.out.size hq.1⟩, rfl⟩⟩)
        have PU := Lib.hid pu
        clear hc4 ht4 pu atu C3 G3 T3
        go_wp2_with (first | (at_builtin; refine wpList_append_V (X := fun b => w.heap.size ≤ b) w4 rfl (.tmp 29) (.tmp 35) 24 rfl 46 zBindU 5 64 Try.underlying24 (by kernel_rfl) rfl (by omega) (.slice As sl.length cs) sl.length _ G4.out (GBind.mk n tu).toD [.int .i64 n, .int .i64 tu.op, .int .i64 tu.n, .string tu.s, .slice Au tu.kids.length cu] HD.out rfl (by simp [Value.oneCell']) (by have := HUF.out.1.few; omega) (by omega) 46 rfl w4.heap.size rfl rfl ?_; intro g9 cap w9 G9 R9))
        have HB9 := Lib.hid (R9.below T4.out.size HO.out)
        have C9 := Lib.hid (C4.out.below HB9.out hg)
        have T9 := Lib.hid (T4.out.then_below HB9.out)
        have S9 := Lib.hid (show Sl w9 (Btw w.heap.size w9.heap.size) 5 (some ⟨g9, 0, none⟩) cap ((sl ++ [GBind.mk n tu]).map GBind.toD) by
          rw [List.map_append]
          exact G9.slBtw (fun b hb => hb) (fun q hq => by
            rcases R9.own with e | ⟨g, e, hg⟩
            · exact HO.out q (e.symm.trans hq)
            · rw [e] at hq; cases hq; exact Nat.le_trans T4.out.size hg))
        have L9 := Lib.hid (show Ending.returned (.slice (some ⟨g9, 0, none⟩) (sl.length + 1) cap) = .returned (.slice (some ⟨g9, 0, none⟩) (sl ++ [GBind.mk n tu]).length cap) by simp)
        clear G9 R9
        go_wp2_with fail
        go_ret
        exact ⟨sl ++ [GBind.mk n tu], some ⟨g9, 0, none⟩, cap, i4, h4, L9.out, ⟨sl, HM3.out, HUF.out.1, HUF.out.2, .inr (.inl ⟨n, tu, rfl, HN.out, PU.out⟩)⟩, S9.out, C9.out, T9.out⟩
      have z0 : (y == 0) = false := beq_eq_false_iff_ne.2 y0
      by_cases y1 : y = 1
      · have z1 : (y == 1) = true := beq_iff_eq.2 y1
        clear y0 y1 hy
        have HD := Lib.hid (GBind.rd_mk (w := w2) (S := OffX (fun b => w.heap.size ≤ b) w2 (.slice As sl.length cs)) (t := GBind.mk (-1) (.mk 0 0 ⟨#[]⟩ [])) (A1 := none) (c1 := 0) ⟨by decide, leafAt _ _ (by decide) (by decide) (by decide)⟩)
        go_wp2_with (first | (at_builtin; refine wpList_append_V (X := fun b => w.heap.size ≤ b) w2 rfl (.tmp 39) (.tmp 41) 24 rfl 46 zBindU 5 64 Try.underlying24 (by kernel_rfl) rfl (by omega) (.slice As sl.length cs) sl.length _ G2.out (GBind.mk (-1) (.mk 0 0 ⟨#[]⟩ [])).toD [.int .i64 (-1), .int .i64 0, .int .i64 0, .string ⟨#[]⟩, .slice none 0 0] HD.out rfl (by simp [Value.oneCell']) (by have := HUF.out.1.few; omega) (by omega) 46 rfl w2.heap.size rfl rfl ?_; intro g9 cap w9 G9 R9))
        have HB9 := Lib.hid (R9.below T2.out.size HO.out)
        have C9 := Lib.hid (C2.out.below HB9.out hg)
        have T9 := Lib.hid (T2.out.then_below HB9.out)
        have S9 := Lib.hid (show Sl w9 (Btw w.heap.size w9.heap.size) 5 (some ⟨g9, 0, none⟩) cap ((sl ++ [GBind.mk (-1) (.mk 0 0 ⟨#[]⟩ [])]).map GBind.toD) by
          rw [List.map_append]
          exact G9.slBtw (fun b hb => hb) (fun q hq => by
            rcases R9.own with e | ⟨g, e, hg⟩
            · exact HO.out q (e.symm.trans hq)
            · rw [e] at hq; cases hq; exact Nat.le_trans T2.out.size hg))
        have L9 := Lib.hid (show Ending.returned (.slice (some ⟨g9, 0, none⟩) (sl.length + 1) cap) = .returned (.slice (some ⟨g9, 0, none⟩) (sl ++ [GBind.mk (-1) (.mk 0 0 ⟨#[]⟩ [])]).length cap) by simp)
        clear G9 R9
        go_wp2_with fail
        go_ret
        exact ⟨sl ++ [GBind.mk (-1) (.mk 0 0 ⟨#[]⟩ [])], some ⟨g9, 0, none⟩, cap, i2, h2, L9.out, ⟨sl, HM3.out, HUF.out.1, HUF.out.2, .inr (.inr rfl)⟩, S9.out, C9.out, T9.out⟩
      · have z1 : (y == 1) = false := beq_eq_false_iff_ne.2 y1
        clear y0 y1 hy
        go_wp2_with fail
        go_ret
        exact ⟨sl, As, cs, i2, h2, rfl, ⟨sl, HM3.out, HUF.out.1, HUF.out.2, .inl rfl⟩, G2.out.slBtw (fun b hb => hb) HO.out, C2.out, T2.out⟩
end Go.Proofs.Ytghldoiblbcacaa

/- Drawn types, as the laws take them. Conditions: none. -/
namespace Go.Proofs.Ytghldoiblbcacaa
open Go.RowKit
set_option linter.unusedVariables false
set_option linter.unusedSimpArgs false
set_option maxHeartbeats 400000

/-- a type of one's own that a law draws -/
def DrawnOne (w : World) (e : Ending) (w' : World) : Prop :=
  ∃ (t : GTy) (A1 : Option Addr) (c1 : Nat), e = .returned (.agg #[.int .i64 t.op, .int .i64 t.n, .string t.s, .slice A1 t.kids.length c1]) ∧ drT5 t ∧ GTy.At w' (Lt w'.heap.size) A1 c1 t ∧ Below w.heap.size w w'
/-- two types -/
def DrawnTwo (w : World) (e : Ending) (w' : World) : Prop :=
  ∃ (a b : GTy) (A1 : Option Addr) (c1 : Nat) (A2 : Option Addr) (c2 : Nat), e = .returned (.tuple #[.agg #[.int .i64 a.op, .int .i64 a.n, .string a.s, .slice A1 a.kids.length c1], .agg #[.int .i64 b.op, .int .i64 b.n, .string b.s, .slice A2 b.kids.length c2]]) ∧ drT5 a ∧ drT5 b ∧ GTy.At w' (Lt w'.heap.size) A1 c1 a ∧ GTy.At w' (Lt w'.heap.size) A2 c2 b ∧ Below w.heap.size w w'

theorem drawOnce2 {l : List Int} {A : Option Addr} {c : Nat} {w : World} {g i : Nat} {h : Int} (hc : Cur l A c w g i h) :
    Calls Try.prog 39 #[.pointer (some ⟨g, 0, none⟩), .int .i64 2] w fun e w' => ∃ (b : Bool) (i : Nat) (h : Int), e = .returned (.bool b) ∧ Cur l A c w' g i h ∧ Turned g w w' := by
  have C0 := Lib.hid hc
  clear hc
  go_enter Try.func39, Try.ntmps39
  go_wp2_with fail
  refine (drawBelow C0.out 2 (by omega) (by omega)).mono ?_
  rintro e w1 ⟨x, i1, h1, rfl, hx, hc1, ht1⟩
  have C1 := Lib.hid hc1
  have T1 := Lib.hid ht1
  clear hc1 ht1 hx
  go_wp2_with fail
  go_ret
  exact ⟨_, i1, h1, rfl, C1.out, T1.out⟩

end Go.Proofs.Ytghldoiblbcacaa

/- What FnApplied draws. Conditions: none. -/
namespace Go.Proofs.Ytghldoiblbcacaa
open Go.RowKit
set_option linter.unusedVariables false
set_option linter.unusedSimpArgs false
set_option maxHeartbeats 400000

set_option maxRecDepth 20000 in
theorem drawFreeVarsT (l : List Int) (A : Option Addr) (c : Nat) (w : World) (hs : Sl w (Lt w.heap.size) 1 A c (l.map (D.num .u8))) (hl : l.length ≤ 1048576) :
    Calls Try.prog 17 #[.slice A l.length c] w (DrawnOne w) := by
  obtain ⟨w0, e0⟩ : ∃ w0, w0 = w.alloc (.cells #[.int .i64 0, .int .i64 0, .string ⟨#[]⟩, .slice none 0 0] 27) := ⟨_, rfl⟩
  have E0 := Lib.hid (show Below w.heap.size w w0 by rw [e0]; exact (Below.refl _ _).alloc (Nat.le_refl _) _)
  have R0 := Lib.hid (show Row w0 w.heap.size 27 #[.int .i64 0, .int .i64 0, .string ⟨#[]⟩, .slice none 0 0] by rw [e0]; exact Row.new' _ _ _ rfl)
  have HN := Lib.hid (newCur l A c w0 (hs.below E0.out E0.out.size) hl)
  have HS0 := Lib.hid (show w0.heap.size = w.heap.size + 1 by rw [e0]; simp)
  have hsl : w.heap.size + 1 ≤ w0.heap.size := Nat.le_of_eq HS0.out.symm
  have EQ := Lib.hid e0
  clear hs e0
  go_enter Try.func17, Try.ntmps17
  go_wp2_with fail
  rw [← EQ.out]
  refine HN.out.mono ?_
  rintro e w1 ⟨h, rfl, hc1, hb1⟩
  have C1 := Lib.hid hc1
  have B1 := Lib.hid hb1
  have R1 := Lib.hid (R0.out.below hb1 (by omega))
  have hl1 := hc1.row.lt
  clear hc1 hb1
  go_wp2_with fail
  refine (drawTy5 C1.out).mono ?_
  rintro e w2 ⟨t, A1, c1, i2, h2, rfl, pt, att, hc2, ht2⟩
  have R2 := Lib.hid (R1.out.turned ht2 (by omega))
  have B2 := Lib.hid (show Below w.heap.size w w2 from (E0.out.trans (B1.out.mono E0.out.size)).trans (ht2.below (by have := B1.out.size; omega) (by omega)))
  have hcz := fun i => R2.out.cell i
  have hfz := fun i => R2.out.frozen i
  have hzl := R2.out.lt
  have BF := Lib.hid (setCells_below B2.out w.heap.size 0 (Nat.le_refl _) [.int .i64 t.op, .int .i64 t.n, .string t.s, .slice A1 t.kids.length c1])
  have AF := Lib.hid (att.keep (w' := setCells w2 w.heap.size 0 [.int .i64 t.op, .int .i64 t.n, .string t.s, .slice A1 t.kids.length c1]) (S' := Lt (setCells w2 w.heap.size 0 [.int .i64 t.op, .int .i64 t.n, .string t.s, .slice A1 t.kids.length c1]).heap.size) (fun b hb => ⟨by rw [setCells_size]; exact hb.2, setCells_block _ _ _ _ b (by have := hb.1; omega)⟩))
  clear hc2 ht2 att
  go_wp2_with fail
  exact bodyPost_ret (v := .agg #[.int .i64 t.op, .int .i64 t.n, .string t.s, .slice A1 t.kids.length c1]) (by simp [results, Try.results17, go_sem, hcz]) rfl ⟨t, A1, c1, rfl, pt, AF.out, BF.out⟩

/-- a substitution and a type -/
def DrawnSubTy (w : World) (e : Ending) (w' : World) : Prop :=
  ∃ (s : List GBind) (t : GTy) (As : Option Addr) (cs : Nat) (A1 : Option Addr) (c1 : Nat), e = .returned (.tuple #[.slice As s.length cs, .agg #[.int .i64 t.op, .int .i64 t.n, .string t.s, .slice A1 t.kids.length c1]]) ∧ drSub s ∧ drT5 t ∧ Sl w' (Lt w'.heap.size) 5 As cs (s.map GBind.toD) ∧ GTy.At w' (Lt w'.heap.size) A1 c1 t ∧ Below w.heap.size w w'
set_option maxRecDepth 20000 in
theorem drawApply (l : List Int) (A : Option Addr) (c : Nat) (w : World) (hs : Sl w (Lt w.heap.size) 1 A c (l.map (D.num .u8))) (hl : l.length ≤ 1048576) :
    Calls Try.prog 16 #[.slice A l.length c] w (DrawnSubTy w) := by
  obtain ⟨w0, e0⟩ : ∃ w0, w0 = w.alloc (.cells #[.int .i64 0, .int .i64 0, .string ⟨#[]⟩, .slice none 0 0] 27) := ⟨_, rfl⟩
  have E0 := Lib.hid (show Below w.heap.size w w0 by rw [e0]; exact (Below.refl _ _).alloc (Nat.le_refl _) _)
  have R0 := Lib.hid (show Row w0 w.heap.size 27 #[.int .i64 0, .int .i64 0, .string ⟨#[]⟩, .slice none 0 0] by rw [e0]; exact Row.new' _ _ _ rfl)
  have HN := Lib.hid (newCur l A c w0 (hs.below E0.out E0.out.size) hl)
  have HS0 := Lib.hid (show w0.heap.size = w.heap.size + 1 by rw [e0]; simp)
  have hsl : w.heap.size + 1 ≤ w0.heap.size := Nat.le_of_eq HS0.out.symm
  have EQ := Lib.hid e0
  clear hs e0
  go_enter Try.func16, Try.ntmps16
  go_wp2_with fail
  rw [← EQ.out]
  refine HN.out.mono ?_
  rintro e w1 ⟨h, rfl, hc1, hb1⟩
  have C1 := Lib.hid hc1
  have B1 := Lib.hid hb1
  have R1 := Lib.hid (R0.out.below hb1 (by omega))
  have hl1 := hc1.row.lt
  clear hc1 hb1
  go_wp2_with fail
  refine (drawSub C1.out).mono ?_
  rintro e w2 ⟨s, As, cs, i2, h2, rfl, ps, hss, hc2, ht2⟩
  have R2 := Lib.hid (R1.out.turned ht2 (by omega))
  have B2 := Lib.hid (show Below w.heap.size w w2 from (E0.out.trans (B1.out.mono E0.out.size)).trans (ht2.below (by have := B1.out.size; omega) (by omega)))
  have SS2 := Lib.hid hss
  have C2 := Lib.hid hc2
  have PS := Lib.hid ps
  have hs2 := ht2.size
  clear hss hc2 ht2 ps
  go_wp2_with fail
  refine (drawTy5 C2.out).mono ?_
  rintro e w3 ⟨t, A1, c1, i3, h3, rfl, pt, att, hc3, ht3⟩
  have R3 := Lib.hid (R2.out.turned ht3 (by omega))
  have B3 := Lib.hid (show Below w.heap.size w w3 from B2.out.trans (ht3.below (by have := B2.out.size; omega) (by omega)))
  have hcz := fun i => R3.out.cell i
  have hfz := fun i => R3.out.frozen i
  have hzl := R3.out.lt
  have BF := Lib.hid (setCells_below B3.out w.heap.size 0 (Nat.le_refl _) [.int .i64 t.op, .int .i64 t.n, .string t.s, .slice A1 t.kids.length c1])
  have AF := Lib.hid (att.keep (w' := setCells w3 w.heap.size 0 [.int .i64 t.op, .int .i64 t.n, .string t.s, .slice A1 t.kids.length c1]) (S' := Lt (setCells w3 w.heap.size 0 [.int .i64 t.op, .int .i64 t.n, .string t.s, .slice A1 t.kids.length c1]).heap.size) (fun b hb => ⟨by rw [setCells_size]; exact hb.2, setCells_block _ _ _ _ b (by have := hb.1; omega)⟩))
  have SF := Lib.hid (SS2.out.keep (w' := setCells w3 w.heap.size 0 [.int .i64 t.op, .int .i64 t.n, .string t.s, .slice A1 t.kids.length c1]) (S' := Lt (setCells w3 w.heap.size 0 [.int .i64 t.op, .int .i64 t.n, .string t.s, .slice A1 t.kids.length c1]).heap.size) (fun b hb => ⟨by rw [setCells_size]; exact Nat.lt_of_lt_of_le hb.2 ht3.size, (setCells_block _ _ _ _ b (by have := hb.1; omega)).trans (ht3.block b hb.2 (by have := hb.1; omega))⟩))
  clear hc3 ht3 att
  go_wp2_with fail
  exact bodyPost_ret (v := .tuple #[.slice As s.length cs, .agg #[.int .i64 t.op, .int .i64 t.n, .string t.s, .slice A1 t.kids.length c1]]) (by simp [results, Try.results16, go_sem, hcz]) rfl ⟨s, t, As, cs, A1, c1, rfl, PS.out, pt, SF.out, AF.out, BF.out⟩
end Go.Proofs.Ytghldoiblbcacaa

/- Same. Conditions: none. -/
namespace Go.Proofs.Ytghldoiblbcacaa
open Go.RowKit
set_option linter.unusedVariables false
set_option linter.unusedSimpArgs false
set_option maxHeartbeats 800000

mutual
/-- are two types alike? -/
def GTy.sm : GTy → GTy → Bool
  | .mk o n s k, .mk o2 n2 s2 k2 => o == o2 && (n == n2 && (s.toList == s2.toList && GTy.smL k k2))
def GTy.smL : List GTy → List GTy → Bool
  | [], [] => true
  | a :: r, b :: r2 => a.sm b && GTy.smL r r2
  | [], _ :: _ => false
  | _ :: _, [] => false
end

theorem GTy.sm_eq (a b : GTy) : a.sm b = (a.op == b.op && (a.n == b.n && (a.s.toList == b.s.toList && GTy.smL a.kids b.kids))) := by
  cases a; cases b; simp only [GTy.sm, GTy.op, GTy.n, GTy.s, GTy.kids]

theorem GTy.smL_len : ∀ {l l2 : List GTy}, l.length ≠ l2.length → GTy.smL l l2 = false
  | [], [], h => by simp at h
  | [], _ :: _, _ => by simp [GTy.smL]
  | _ :: _, [], _ => by simp [GTy.smL]
  | a :: r, b :: r2, h => by
    simp only [GTy.smL]
    rw [GTy.smL_len (l := r) (l2 := r2) (by simpa using h)]
    simp

theorem GTy.smL_false : ∀ {l l2 : List GTy} (i : Nat) (h1 : i < l.length) (h2 : i < l2.length), (l[i]).sm l2[i] = false → GTy.smL l l2 = false
  | [], _, i, h1, _, _ => by simp at h1
  | _ :: _, [], i, _, h2, _ => by simp at h2
  | a :: r, b :: r2, 0, _, _, h => by simp only [GTy.smL]; simp only [List.getElem_cons_zero] at h; rw [h]; rfl
  | a :: r, b :: r2, i + 1, h1, h2, h => by
    simp only [GTy.smL]
    rw [GTy.smL_false (l := r) (l2 := r2) i (by simpa using h1) (by simpa using h2) (by simpa using h)]
    simp

theorem GTy.smL_true : ∀ {l l2 : List GTy}, l.length = l2.length → (∀ i (h1 : i < l.length) (h2 : i < l2.length), (l[i]).sm l2[i] = true) → GTy.smL l l2 = true
  | [], [], _, _ => by simp [GTy.smL]
  | [], _ :: _, h, _ => by simp at h
  | _ :: _, [], h, _ => by simp at h
  | a :: r, b :: r2, h, hi => by
    simp only [GTy.smL]
    rw [GTy.smL_true (l := r) (l2 := r2) (by simpa using h) (fun i h1 h2 => hi (i + 1) (by simpa using h1) (by simpa using h2))]
    have := hi 0 (by simp) (by simp)
    simp only [List.getElem_cons_zero] at this
    rw [this]; rfl

set_option maxRecDepth 20000 in
theorem equalFuncTy (K : Nat) (hK : ∀ (args : Array Value) (w : World), (callFunc K args).run Try.prog w = .ok (.enter K args) w) (l l2 : List GTy) (A B : Option Addr) (c d : Nat) (w : World) (hs : Sl w (Lt w.heap.size) 4 A c (l.map GTy.toD)) (hs2 : Sl w (Lt w.heap.size) 4 B d (l2.map GTy.toD))
    (H : ∀ a b, a ∈ l → ∀ (A1 : Option Addr) (c1 : Nat) (B1 : Option Addr) (d1 : Nat) (w : World), GTy.At w (Lt w.heap.size) A1 c1 a → GTy.At w (Lt w.heap.size) B1 d1 b →
      Calls Try.prog K #[.agg #[.int .i64 a.op, .int .i64 a.n, .string a.s, .slice A1 a.kids.length c1], .agg #[.int .i64 b.op, .int .i64 b.n, .string b.s, .slice B1 b.kids.length d1]] w
      fun e w' => e = .returned (.bool (a.sm b)) ∧ Below w.heap.size w w') :
    Calls Try.prog 51 #[.slice A l.length c, .slice B l2.length d, .func (.func K) #[] #[]] w
      fun e w' => e = .returned (.bool (GTy.smL l l2)) ∧ Below w.heap.size w w' := by
  have hlen : l.length ≤ 9223372036854775807 := by simpa using hs.len
  have hlen2 : l2.length ≤ 9223372036854775807 := by simpa using hs2.len
  have HH := Lib.hid H
  clear H
  by_cases hl : l.length = l2.length
  rotate_left
  · have e1 : (l.length != l2.length) = true := by simpa using hl
    have e2 : ((l.length : Int) != (l2.length : Int)) = true := by rw [bne_iff_ne]; omega
    have hr := Lib.hid (GTy.smL_len hl)
    clear hl
    go_enter Try.func51, Try.ntmps51
    go_wp2_with fail
    go_ret
    exact ⟨ret_bool hr.out.symm, Below.refl _ _⟩
  have e1 : (l.length != l2.length) = false := by simpa using hl
  have e2 : ((l.length : Int) != (l2.length : Int)) = false := by rw [bne_eq_false_iff_eq]; omega
  have Hl := Lib.hid hl
  have hle : l.length ≤ l2.length := by omega
  have hle2 : l2.length ≤ l.length := by omega
  clear hl
  go_enter Try.func51, Try.ntmps51
  go_wp2_with fail
  go_loopw [17] (fun i wr => ∃ j : Nat, j ≤ l.length ∧ i = .int .i64 j ∧ (∀ i (h1 : i < l.length) (h2 : i < l2.length), i < j → (l[i]).sm l2[i] = true) ∧ Below w.heap.size w wr) (fun i _ => l.length - (intOf i).toNat)
  case atStart => exact ⟨0, by omega, by go_num, fun i _ _ h => by omega, Below.refl _ _⟩
  case round =>
    obtain ⟨j, hj, rfl, hall, hbl⟩ := hrel
    have Hall := Lib.hid hall
    clear hall
    have hsz := hbl.size
    by_cases hlt : j < l.length
    · have hlt2 : j < l2.length := by omega
      have htr := GTy.elem (hs.below hbl (Nat.le_refl _)) j hlt
      obtain ⟨b, off, A1, c1, rfl, hSb, g0, g1, g2, g3, hat⟩ := htr
      have htr := GTy.elem (hs2.below hbl (Nat.le_refl _)) j hlt2
      obtain ⟨b', off', B1, d1, rfl, hSb', g0', g1', g2', g3', hat'⟩ := htr
      have hmem : l[j] ∈ l := List.getElem_mem hlt
      have hlb : b < wr.heap.size := Nat.lt_of_lt_of_le hSb hsz
      have hlb' : b' < wr.heap.size := Nat.lt_of_lt_of_le hSb' hsz
      have E : Below w.heap.size wr ((wr.alloc (.cells #[.int .i64 l[j].op, .int .i64 l[j].n, .string l[j].s, .slice A1 l[j].kids.length c1] 27)).alloc (.cells #[.int .i64 l2[j].op, .int .i64 l2[j].n, .string l2[j].s, .slice B1 l2[j].kids.length d1] 27)) :=
        ((Below.refl _ _).alloc hsz _).alloc (by simp; omega) _
      go_wp2_with fail
      refine (HH.out _ _ hmem _ _ _ _ _ (hat.below E (by simp; omega)) (hat'.below E (by simp; omega))).mono ?_
      rintro e w1 ⟨rfl, hb1⟩
      have B1 := hbl.trans (E.trans (hb1.mono (by simp; omega)))
      cases he : (l[j]).sm l2[j]
      · have hr := Lib.hid (GTy.smL_false j hlt hlt2 he)
        go_wp2_with fail
        go_ret
        exact ⟨ret_bool hr.out.symm, B1⟩
      · have he2 := Lib.hid he
        go_wp2_with fail
        go_roundw
        case rel => exact ⟨j + 1, by omega, by go_num, fun i h1 h2 hi => by
          rcases Nat.lt_or_ge i j with h | h
          · exact Hall.out i h1 h2 h
          · obtain rfl : i = j := by omega
            exact he2.out, B1⟩
        case measure => simp [intOf]; omega
    · have hjl : j = l.length := by omega
      have Hj := Lib.hid hjl
      clear hjl
      go_wp2_with fail
      go_ret
      exact ⟨ret_bool (GTy.smL_true Hl.out (fun i h1 h2 => Hall.out i h1 h2 (by rw [Hj.out]; exact h1))).symm, hbl⟩

set_option maxRecDepth 20000 in
theorem implSame (k : Nat) : ∀ (a b : GTy) (A1 : Option Addr) (c1 : Nat) (B1 : Option Addr) (d1 : Nat) (w : World), a.bulk < k → GTy.At w (Lt w.heap.size) A1 c1 a → GTy.At w (Lt w.heap.size) B1 d1 b →
    Calls Try.prog 13 #[.agg #[.int .i64 a.op, .int .i64 a.n, .string a.s, .slice A1 a.kids.length c1], .agg #[.int .i64 b.op, .int .i64 b.n, .string b.s, .slice B1 b.kids.length d1]] w
      fun e w' => e = .returned (.bool (a.sm b)) ∧ Below w.heap.size w w' := by
  induction k with
  | zero => intro a b A1 c1 B1 d1 w h; omega
  | succ k ih =>
    intro a b A1 c1 B1 d1 w hk ha hb
    have hse := Lib.hid (GTy.sm_eq a b)
    cases g0 : (a.op == b.op)
    · go_enter Try.func13, Try.ntmps13
      go_wp2_with fail
      go_ret
      exact ⟨ret_bool (by rw [hse.out, g0]; rfl), ((Below.refl _ _).alloc (Nat.le_refl _) _).alloc (by simp) _⟩
    cases g1 : (a.n == b.n)
    · go_enter Try.func13, Try.ntmps13
      go_wp2_with fail
      go_ret
      exact ⟨ret_bool (by rw [hse.out, g0, g1]; rfl), ((Below.refl _ _).alloc (Nat.le_refl _) _).alloc (by simp) _⟩
    cases g2 : (a.s.toList == b.s.toList)
    · go_enter Try.func13, Try.ntmps13
      go_wp2_with fail
      go_ret
      exact ⟨ret_bool (by rw [hse.out, g0, g1, g2]; rfl), ((Below.refl _ _).alloc (Nat.le_refl _) _).alloc (by simp) _⟩
    · go_enter Try.func13, Try.ntmps13
      have E : Below w.heap.size w ((w.alloc (.cells #[.int .i64 a.op, .int .i64 a.n, .string a.s, .slice A1 a.kids.length c1] 27)).alloc (.cells #[.int .i64 b.op, .int .i64 b.n, .string b.s, .slice B1 b.kids.length d1] 27)) :=
        ((Below.refl _ _).alloc (Nat.le_refl _) _).alloc (by simp) _
      go_wp2_with fail
      obtain ⟨-, -, -, q⟩ := ha.below E E.size
      obtain ⟨-, -, -, q2⟩ := hb.below E E.size
      refine (equalFuncTy 13 (enters Try.func13 (by kernel_rfl) (by kernel_rfl)) a.kids b.kids A1 B1 c1 d1 _ q q2 (fun u v hu A1 c1 B1 d1 w h1 h2 => ih u v A1 c1 B1 d1 w (by have := bulkL_mem GTy.bulk a.kids u hu; have := a.bulk_eq; omega) h1 h2)).mono ?_
      rintro e w1 ⟨rfl, hb1⟩
      go_wp2_with fail
      go_ret
      exact ⟨ret_bool (by rw [hse.out, g0, g1, g2]; rfl), E.trans (hb1.mono E.size)⟩

end Go.Proofs.Ytghldoiblbcacaa

/- A type is the same as itself (no program in sight). Conditions: none. -/
namespace Go.Proofs.Ytghldoiblbcacaa
open Go.RowKit
set_option linter.unusedVariables false
set_option linter.unusedSimpArgs false

mutual
theorem GTy.sm_refl : ∀ t : GTy, t.sm t = true
  | .mk op n s kids => by
    rw [GTy.sm_eq]
    simp only [GTy.op, GTy.n, GTy.s, GTy.kids, GTy.smL_refl kids, beq_self_eq_true, Bool.and_self]
theorem GTy.smL_refl : ∀ l : List GTy, GTy.smL l l = true
  | [] => by rw [GTy.smL]
  | t :: r => by rw [GTy.smL, GTy.sm_refl t, GTy.smL_refl r]; rfl
end
end Go.Proofs.Ytghldoiblbcacaa

/- sameInts and within of the laws. Conditions: none. -/
namespace Go.Proofs.Ytghldoiblbcacaa
open Go.RowKit
set_option linter.unusedVariables false
set_option linter.unusedSimpArgs false
set_option maxHeartbeats 400000

theorem sameIntsL (l : List Int) (A B : Option Addr) (c d : Nat) (w : World) (hs : Sl w (Lt w.heap.size) 1 A c (l.map (D.num .i64))) (hs' : Sl w (Lt w.heap.size) 1 B d (l.map (D.num .i64))) :
    Calls Try.prog 19 #[.slice A l.length c, .slice B l.length d] w fun e w' => e = .returned (.bool true) ∧ Below w.heap.size w w' := by
  have hlen : l.length ≤ 9223372036854775807 := by simpa using hs.len
  have S0 := Lib.hid hs
  have S1 := Lib.hid hs'
  clear hs hs'
  go_enter Try.func19, Try.ntmps19
  go_wp2_with fail
  go_loopw [5] (fun i wr => ∃ (j : Nat), j ≤ l.length ∧ i = .int .i64 j ∧ Below w.heap.size w wr) (fun i _ => l.length - (intOf i).toNat)
  case atStart => exact ⟨0, by omega, by go_num, Below.refl _ _⟩
  case round =>
    obtain ⟨j, hj, rfl, hb⟩ := hrel
    by_cases hlt : j < l.length
    · obtain ⟨b, off, rfl, hSb, g0, _⟩ := int_elem (S0.out.below hb (Nat.le_refl _)) j hlt
      obtain ⟨b', off', rfl, hSb', g0', _⟩ := int_elem (S1.out.below hb (Nat.le_refl _)) j hlt
      go_wp2_with fail
      go_quiet (fail)
      go_wp2_with fail
      go_roundw
      case rel => exact ⟨j + 1, by omega, by go_num, ⟨hb.os, hb.tape, hb.output, hb.size, hb.block⟩⟩
      case measure => simp [intOf]; omega
    · go_wp2_with fail
      go_ret
      exact ⟨rfl, hb⟩

theorem withinL (l : List Int) (A : Option Addr) (c : Nat) (x : Int) (w : World) (hs : Sl w (Lt w.heap.size) 1 A c (l.map (D.num .i64))) :
    Calls Try.prog 22 #[.slice A l.length c, .int .i64 x] w fun e w' => e = .returned (.bool (l.any (fun y => y == x))) ∧ Below w.heap.size w w' := by
  have hlen : l.length ≤ 9223372036854775807 := by simpa using hs.len
  have S0 := Lib.hid hs
  clear hs
  go_enter Try.func22, Try.ntmps22
  go_wp2_with fail
  go_loopw [5] (fun i wr => ∃ (j : Nat), j ≤ l.length ∧ i = .int .i64 j ∧ Hid (noneTo (fun y => y == x) l j) ∧ Below w.heap.size w wr) (fun i _ => l.length - (intOf i).toNat)
  case atStart => exact ⟨0, by omega, by go_num, Lib.hid (noneTo_zero _ _), Below.refl _ _⟩
  case round =>
    obtain ⟨j, hj, rfl, HN, hb⟩ := hrel
    by_cases hlt : j < l.length
    · obtain ⟨b, off, rfl, hSb, g0, _⟩ := int_elem (S0.out.below hb (Nat.le_refl _)) j hlt
      cases he : (l[j] == x)
      · have HN2 := Lib.hid (noneTo_succ HN.out hlt he)
        go_wp2_with fail
        go_roundw
        case rel => exact ⟨j + 1, by omega, by go_num, HN2, hb⟩
        case measure => simp [intOf]; omega
      · have HW := Lib.hid (show l.any (fun y => y == x) = true from List.any_eq_true.2 ⟨_, List.getElem_mem hlt, he⟩)
        go_wp2_with fail
        go_ret
        exact ⟨ret_bool HW.out.symm, hb⟩
    · have HW := Lib.hid (show l.any (fun y => y == x) = false from by
        rw [List.any_eq_false]
        intro y hy
        obtain ⟨i, hi, rfl⟩ := List.getElem_of_mem hy
        have h3 := HN.out i hi (by omega)
        simpa using h3)
      go_wp2_with fail
      go_ret
      exact ⟨ret_bool HW.out.symm, hb⟩
end Go.Proofs.Ytghldoiblbcacaa

/- Regions that draw their order, whose operations only read and whose callees only make memory of their own: one walk serves every order. Conditions: none. -/
namespace Go.Proofs.Ytghldoiblbcacaa
open Go.RowKit
set_option linter.unusedVariables false

/-- a world that has grown out of another -/
structure Up (W : World) where
  v : World
  h : Below W.heap.size W v
instance upNonempty (W : World) : Nonempty (Up W) := ⟨⟨W, Below.refl _ _⟩⟩

theorem wp_region_up {P : Program} {id : Nat} {Q : Exit → Act → World → Prop} {a : Act} {w : World} {l : List Oper} (W : World) (hW : Below W.heap.size W w) (hm : P.follows .mixedOrders = true) (hB : Region.lexB .any l.toArray = true)
    (h : wpQuiet P l.toArray (fun w' => ∃ x : Up W, w' = x.v) (fun a' => ∀ w', (∃ x : Up W, w' = x.v) → Q .normal a' w') l a) : (Code.region id l.toArray true).wp P Q a w :=
  wp_region_quiet (C := fun w' => ∃ x : Up W, w' = x.v) hm hB ⟨⟨_, hW.drew⟩, rfl⟩ h

theorem upCall {P : Program} {f : FuncId} {args : Array Value} {W : World} {x : Up W} {v : Value}
    (h : Calls P f args x.v fun e w' => e = .returned v ∧ Below x.v.heap.size x.v w') : Calls P f args x.v fun e w'' => e = .returned v ∧ ∃ y : Up W, w'' = y.v :=
  h.mono fun _ w' ⟨he, hb⟩ => ⟨he, ⟨w', x.h.trans (hb.mono x.h.size)⟩, rfl⟩
theorem upSame {P : Program} {f : FuncId} {args : Array Value} {W : World} {x : Up W} {v : Value}
    (h : Calls P f args x.v fun e w' => e = .returned v ∧ x.v = w') : Calls P f args x.v fun e w'' => e = .returned v ∧ ∃ y : Up W, w'' = y.v :=
  h.mono fun _ w' ⟨he, hb⟩ => ⟨he, x, hb.symm⟩
theorem upCell {W : World} {p : Addr} {v : Value} (hp : p.block < W.heap.size) (h : W.cell? p = some v) (x : Up W) : x.v.cell? p = some v := (x.h.cell hp).trans h
theorem upRow {W : World} {k : Nat} {t : TypeId} {cs : Array Value} (h : Row W k t cs) (x : Up W) (i : Nat) : x.v.cell? ⟨k, i, none⟩ = cs[i]? := (h.below x.h h.lt).cell i
end Go.Proofs.Ytghldoiblbcacaa
