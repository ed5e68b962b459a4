/- The evaluator, texts in one: EvQ4 EvQ5 EvQ6 EvQ7 EvQ8 EvQ9 EvQA EvQB EvQC EvQD. Conditions: none. -/
import Derived.Test.YtehpobojopmilaaGreatZE3
import Derived.LoopN
namespace Go.Proofs.YtehpobojopmilaaGreat.Ev
set_option linter.unusedVariables false
set_option linter.unusedSimpArgs false
open Go
set_option maxRecDepth 4000
section
variable {P : Program} {TY : T TI} {tx : Tx} {nt N : Nat} {L : T Ly} {ops : Array Oper} {X0 : Loc → Vl} {bs i : Nat} {A : List Al} {fr : Nat} {m m' : Me} {γ : Nat} {X : Loc → Vl} {o : Oper} {an : Nat} {rd wr : List Nat}
theorem logAll_mem {bs : Nat} : ∀ {a l : List Nat}, (∀ q ∈ l, q ∈ logAll bs a l) ∧ (∀ q ∈ logAll bs a l, q ∈ l ∨ (q ∈ a ∧ accI q < bs)) ∧ (∀ q ∈ a, accI q < bs → q ∈ logAll bs a l)
 | [], l => ⟨fun q h => h, fun q h => .inl h, fun q h => by cases h⟩
 | x :: a, l => by
  have e : logAll bs (x :: a) l = logAll bs a (logOne bs x l) := rfl
  rw [e]
  obtain ⟨g1, g2, g3⟩ := logOne_mem (bs := bs) (a := x) (log := l)
  obtain ⟨h1, h2, h3⟩ := logAll_mem (bs := bs) (a := a) (l := logOne bs x l)
  refine ⟨fun q h => h1 q (g1 q h), fun q h => ?_, fun q h hlt => ?_⟩
  · rcases h2 q h with h | ⟨h, h'⟩
    · rcases g2 q h with h | ⟨rfl, h'⟩
      · exact .inl h
      · exact .inr ⟨List.mem_cons_self, h'⟩
    · exact .inr ⟨List.mem_cons_of_mem _ h, h'⟩
  · rcases List.mem_cons.1 h with rfl | h
    · exact h1 _ (g3 hlt)
    · exact h3 q h hlt
def setH (X Xc : Loc → Vl) (nx : Nat) : Loc → Vl
 | .tm t => X (.tm t)
 | .mt j => if j < nx then Xc (.mt j) else X (.mt j)
 | .cl j k => if j < nx then Xc (.cl j k) else X (.cl j k)
theorem step_cl (h : Pre tx nt N L ops X0 bs A fr m γ X) {hs : Sh} {v : Nat} {Xc : Loc → Vl} {d : Pl} (h1 : m.nx ≤ m'.nx) (hlg : ∀ q ∈ m'.lg, accI q < m.nx ∧ X (.mt (accI q)) ≠ .no) (hhi : m'.nx ≤ 1000001) (hpc : HeapIs Xc m'.h m'.nx)
 (hmt : ∀ id, id < m.nx → Xc (.mt id) = X (.mt id) ∨ (Xc (.mt id) = .no ∧ acc id 0 4095 ∈ m'.lg)) (hcl : ∀ id k, id < m.nx → Xc (.cl id k) = X (.cl id k) ∨ ∃ q ∈ m'.lg, cov q (.cl id k))
 (hst : ∀ (X' : Loc → Vl) Q, (∀ d, o.dst = some d → d < nt ∧ X' (.tm d) = .v hs v) → (∀ id, id < m'.nx → X' (.mt id) = Xc (.mt id) ∧ ∀ k, X' (.cl id k) = Xc (.cl id k)) → StpOk (Rel tx nt) P ops Q i X X' ⟨fun l => RT ops o l ∨ clR m.nx l, fun l => wD o.dst l ∨ clW m'.lg m.nx m'.nx l, fun j => ∃ q ∈ m'.lg, accI q = j, fun j => m.nx ≤ j ∧ j < m'.nx⟩)
 (hc : cDst nt N L o.dst hs i = some d) (hb : ∀ t, o.dst = some t → ∀ k, hs ≠ .b k) :
 StepR P tx nt N L ops X0 bs i fr m γ X (putF fr d.s d.nm d.k v) ⟨m'.h, m'.nx, logAll bs m'.lg m.lg⟩ γ (setT (setH X Xc m'.nx) o.dst (.v hs v)) (alNew L o.dst (alOff ops.toList o.dst A)) (fun D => D) ⟨tmOf ops.toList o i an rd wr, ⟨i, an, [], m'.lg, m.nx, m'.nx, true⟩, GH, GH⟩ := by
 have hgh : m'.nx < GH := by unfold GH; omega
 have hrg : RgOk N m γ ⟨m'.h, m'.nx, logAll bs m'.lg m.lg⟩ γ ⟨tmOf ops.toList o i an rd wr, ⟨i, an, [], m'.lg, m.nx, m'.nx, true⟩, GH, GH⟩ := ⟨h1, hhi, Nat.le_refl _, fun _ => ⟨rfl, rfl⟩, fun _ => ⟨rfl, rfl⟩, fun h' => absurd h' (Nat.lt_irrefl GH)⟩
 have hst' := fun Q => hst (setT (setH X Xc m'.nx) o.dst (.v hs v)) Q (fun t e => ⟨(cDst_nt hc t e).1, by rw [e]; exact setT_at⟩) (fun id hid => ⟨if_pos hid, fun k => if_pos hid⟩)
 obtain ⟨f1, f2, f3⟩ := fin_step (L := L) hst' (fun l hl => by
   rw [setT_out l fun h => hl (.inl h)]
   cases l with
   | tm t => rfl
   | mt j =>
     by_cases hj : j < m'.nx
     · have e : setH X Xc m'.nx (.mt j) = Xc (.mt j) := if_pos hj
       rw [e]
       by_cases hj2 : j < m.nx
       · rcases hmt j hj2 with g | ⟨_, g⟩
         · exact g
         · exact absurd (.inr (.inl g)) hl
       · exact absurd (.inr (.inr ⟨by omega, hj⟩)) hl
     · exact if_neg hj
   | cl j k =>
     by_cases hj : j < m'.nx
     · have e : setH X Xc m'.nx (.cl j k) = Xc (.cl j k) := if_pos hj
       rw [e]
       by_cases hj2 : j < m.nx
       · rcases hcl j k hj2 with g | g
         · exact g
         · exact absurd (.inr (.inl g)) hl
       · exact absurd (.inr (.inr ⟨by omega, hj⟩)) hl
     · exact if_neg hj) h.live hrg (fun l hl => .inl (by
     rcases hl with hl | hl
     · exact rt_in hl
     · cases l with
       | tm t => exact hl.elim
       | mt j => exact .inl ⟨h.lt hl, .inr ⟨rfl, hl⟩⟩
       | cl j k => exact .inl ⟨h.lt hl, .inr ⟨rfl, hl⟩⟩)) (fun l hl => by
     rcases hl with hl | hl
     · exact wd_in hl
     · cases l with
       | tm t => exact hl.elim
       | mt j =>
         rcases hl with hl | ⟨g1, g2⟩
         · have := (hlg _ hl).1
           rw [(acc_all j).1] at this
           exact .inl ⟨h.lt this, .inl ⟨_, hl, rfl⟩⟩
         · exact .inl ⟨by omega, .inr ⟨g1, g2⟩⟩
       | cl j k =>
         rcases hl with ⟨q, hq, hl⟩ | ⟨g1, g2⟩
         · have := (hlg _ hq).1
           rw [hl.1] at this
           exact .inl ⟨h.lt this, .inl ⟨q, hq, hl⟩⟩
         · exact .inl ⟨by omega, .inr ⟨g1, g2⟩⟩) (fun j ⟨q, hq, hj⟩ => .inr ⟨q, hq, hj⟩) (fun j hj => .inl hj)
 obtain ⟨g1, g2, g3⟩ := dst_put (X' := setT (setH X Xc m'.nx) o.dst (.v hs v)) (v := v) h.ly h.n1 h.fok h.al hc hb (fun t ht => setT_ne ht) (fun g hg => if_neg (by omega)) (fun g j hg => if_neg (by omega)) (fun t e => by rw [e]; exact setT_at) (fun t e => live_lt f3 (by rw [e]; exact setT_at))
 have hbb := h.hp.b
 obtain ⟨l1, l2, l3⟩ := logAll_mem (bs := bs) (a := m'.lg) (l := m.lg)
 refine ⟨f1, f2, hrg, ⟨fun q hq => (by cases hq), fun h => (by cases h), fun _ q hq => (hlg q hq).1, fun _ => rfl, Nat.le_of_lt hgh, Nat.le_refl _, fun g h1 h2 => absurd (Nat.lt_of_le_of_lt h1 h2) (Nat.lt_irrefl GH)⟩, rfl, ⟨h.ly, h.n1, g1, g2, ?_, f3⟩, g3, l1, fun q hq => ?_⟩
 ·
  have h2 : HpOk X0 bs ⟨m'.h, m'.nx, logAll bs m'.lg m.lg⟩ (setH X Xc m'.nx) := by
   refine ⟨⟨fun id b e => ?_, fun id hid e => (if_pos hid).trans (hpc.no id hid e), hhi⟩, Nat.le_trans hbb h1, fun q hq => ?_, fun id hid => ?_, fun id k hid => ?_⟩
   · obtain ⟨g1, g2⟩ := hpc.at_ id b e
     exact ⟨g1, (if_pos g1).trans g2.mt, fun j hj => (if_pos g1).trans (g2.cl j hj), g2.n, g2.lt⟩
   · rcases l2 q hq with hq | ⟨hq, hlt⟩
     · exact h.hp.lg q hq
     · refine ⟨hlt, ?_⟩
       have := (hlg q hq).2
       rcases h.hp.mt _ hlt with g | ⟨g, _⟩
       · rw [← g]; exact this
       · exact absurd g this
   ·
    have e : setH X Xc m'.nx (.mt id) = Xc (.mt id) := if_pos (show id < m'.nx by omega)
    rw [e]
    rcases hmt id (by omega) with g | ⟨g, g'⟩
    · rw [g]
      rcases h.hp.mt id hid with k | ⟨k, k'⟩
      · exact .inl k
      · exact .inr ⟨k, l1 _ k'⟩
    · exact .inr ⟨g, l3 _ g' (by rw [(acc_all id).1]; exact hid)⟩
   ·
    have e : setH X Xc m'.nx (.cl id k) = Xc (.cl id k) := if_pos (show id < m'.nx by omega)
    rw [e]
    rcases hcl id k (by omega) with g | ⟨q, g, g'⟩
    · rw [g]
      rcases h.hp.cl id k hid with k' | ⟨q, k1, k2⟩
      · exact .inl k'
      · exact .inr ⟨q, l1 _ k1, k2⟩
    · exact .inr ⟨q, l3 _ g (by rw [g'.1]; exact hid), g'⟩
  exact h2.same (fun _ _ => rfl) (fun _ _ _ => rfl)
 · by_cases hlt : accI q < bs
   · exact .inr ⟨q, l3 q hq hlt, rfl⟩
   · exact .inl (by omega)
theorem step_al0 (h : Pre tx nt N L ops X0 bs A fr m γ X) {d : Nat} {x : Vl} {a : Al} {p : Stp Loc} (hd : o.dst = some d) (hp : L.get d = none) (hn : isAl d A = false) (hst : ∀ Q, StpOk (Rel tx nt) P ops Q i X (setT X o.dst x) p) (hpW : p.W = wD o.dst) (hpL : ∀ j, ¬ p.L j) (hpN : ∀ j, ¬ p.N j) (hR : ∀ l, p.R l → Ix.R L N ⟨tmOf ops.toList o i an rd wr, rec0 i, GH, GH⟩ l)
 (ha : AliOk ops tx L fr (setT X o.dst x) a) :
 StepR P tx nt N L ops X0 bs i fr m γ X fr m γ (setT X o.dst x) (a :: alOff ops.toList (some d) A) (fun D => D) ⟨tmOf ops.toList o i an rd wr, rec0 i, GH, GH⟩ := by
 have hrg := rg0 (N := N) (m := m) (γ := γ) (i := i) (τ := tmOf ops.toList o i an rd wr) h.hi
 obtain ⟨f1, f2, f3⟩ := fin_step (L := L) hst (fun l hl => setT_out l (by rw [← hpW]; exact hl)) h.live hrg (fun l hl => .inl (hR l hl)) (fun l hl => wd_in (by rw [hpW] at hl; exact hl)) (fun j hj => absurd hj (hpL j)) (fun j hj => absurd hj (hpN j))
 obtain ⟨g1, g2⟩ := ali_ok (X' := setT X o.dst x) h.fok h.al hp hn (fun t ht => setT_ne (by rw [hd]; intro e; exact ht (Option.some.inj e).symm)) (fun _ => rfl) (fun _ _ => rfl) ha
 exact ⟨f1, f2, hrg, ix0, rfl, ⟨h.ly, h.n1, g1, g2, h.hp.same (fun _ _ => rfl) (fun _ _ _ => rfl), f3⟩, fun _ h => h, fun _ h => h, fun q hq => by cases hq⟩
theorem gpos_of {γ N p : Nat} (h : p < N) : gpos N (GH + (γ * N + p)) = p := by
 unfold gpos
 rw [Nat.add_sub_cancel_left, Nat.mul_comm, Nat.mul_add_mod, Nat.mod_eq_of_lt h]
theorem inBox_at (hL : LyOk L N) {d : Nat} {y : Ly} {k q : Nat} (hy : L.get d = some y) (hk : y.h = .b k) (h1 : 1 ≤ k) (h : inBox L y.p q) : q < k := by
 obtain ⟨d', y', n, h2, h3, h4, h5⟩ := h
 have := box_apart hL hy hk h1 h2 h4 (by omega) h3
 subst this
 rw [hy] at h2; cases h2
 rw [hk] at h4; cases h4
 exact h5
theorem step_new (h : Pre tx nt N L ops X0 bs A fr m γ X) {d : Nat} {y : Ly} {k v ty : Nat} (hd : o.dst = some d) (hdn : d < nt) (hy : L.get d = some y) (hk : y.h = .b k) (h1 : 1 ≤ k) (h0 : v % 8 ≠ 0) (hv : v < 2 ^ (72 * k)) (hwr : wr = rngL y.p k) {j40 : Nat} (hj : j40 < 2 ^ 40)
 (hst : ∀ g (X' : Loc → Vl) Q, X' (.tm d) = .gp g 0 → X' (.mt g) = .mt k ty 0 true → (∀ i, i < k → X' (.cl g i) = .c (cel v i)) → StpOk (Rel tx nt) P ops Q i X X' ⟨RT ops o, fun l => wD o.dst l ∨ l = .mt g ∨ ∃ j, l = .cl g j ∧ j < k, fun _ => False, fun j => j = g⟩) :
 ∃ X' g, StepR P tx nt N L ops X0 bs i fr m γ X (putF fr (72 * y.p) (kp N y.p k) j40 v) m (γ + 1) X' (alNew L o.dst (alOff ops.toList o.dst A)) (fun D => d :: D) ⟨tmOf ops.toList o i an rd wr, rec0 i, g, g + 1⟩ := by
 obtain ⟨l1, l2⟩ := h.ly.le d y hy
 have hys : y.h.sz = k := by rw [hk]; rfl
 rw [hys] at l2
 obtain ⟨g, hgd⟩ : ∃ g, g = GH + (γ * N + y.p) := ⟨_, rfl⟩
 have hgp : gpos N g = y.p := by rw [hgd]; exact gpos_of (by omega)
 have hgg : GH ≤ g := by omega
 have hm := h.hi
 have hmul : (γ + 1) * N = γ * N + N := by rw [Nat.add_mul, Nat.one_mul]
 have hb' : ∀ j, j < m.nx → j ≠ g := fun j hj => by have := h.lt hj; omega
 have hst' := fun Q => hst g (setT (setB X g ⟨v, k, ty, 0, true⟩) o.dst (.gp g 0)) Q (by rw [hd]; exact setT_at) (if_pos rfl) (fun q hq => if_pos ⟨rfl, hq⟩)
 have hrg : RgOk N m γ m (γ + 1) ⟨tmOf ops.toList o i an rd wr, rec0 i, g, g + 1⟩ := ⟨Nat.le_refl _, hm, Nat.le_succ _, fun h => (by cases h), fun h => (by cases h), fun _ => ⟨by show _ ≤ g; omega, by show g + 1 ≤ _; omega⟩⟩
 have hmem : ∀ q, q < k → 2 * (gpos N g + q) + 1 ∈ (tmOf ops.toList o i an rd wr).w := fun q hq => by
  rw [hgp]; exact own_w (by rw [hwr]; exact rngL_mem k q hq)
 obtain ⟨f1, f2, f3⟩ := fin_step (L := L) hst' (fun l hl => by
   rw [setT_out l fun h => hl (.inl h)]
   cases l with
   | tm t => rfl
   | mt j => exact if_neg fun e => hl (.inr (.inl (by rw [e])))
   | cl j q => exact if_neg fun e => hl (.inr (.inr ⟨q, by rw [e.1], e.2⟩))) h.live hrg (fun l hl => .inl (rt_in hl)) (fun l hl => by
     rcases hl with hl | hl | ⟨j, hl, hj⟩
     · exact wd_in hl
     · subst hl; exact .inr ⟨hgg, Nat.le_refl _, Nat.lt_succ_self _⟩
     · subst hl; exact .inr ⟨hgg, hmem j hj⟩) (fun j hj => hj.elim) (fun j hj => by subst hj; exact .inr ⟨Nat.le_refl _, Nat.lt_succ_self _⟩)
 obtain ⟨p1, p2⟩ := put_agree (fr := fr) (k := j40) l1 l2 hj hv
 have hnew := new_ok (ty := ty) (g := g) (X' := setT (setB X g ⟨v, k, ty, 0, true⟩) o.dst (.gp g 0)) h.ly h.fok h.al hy hk h1 p1 p2 (by rw [cel0_mod]; omega) hgg hgp (by rw [hd]; exact setT_at) (if_pos rfl) (fun q hq => if_pos ⟨rfl, hq⟩) (fun t ht => setT_ne (by rw [hd]; intro e; exact ht (Option.some.inj e).symm)) (fun g' _ hne => if_neg hne) (fun g' q _ hne => if_neg fun e => hne e.1)
 obtain ⟨g1, g2, g3⟩ := hnew
 rw [← hd] at g2
 refine ⟨_, g, f1, f2, hrg, ⟨fun q h => (by cases h), fun _ q h => (by cases h), fun h => (by cases h), fun h => (by cases h), Nat.zero_le _, hgg, fun g' h2 h3 => ?_⟩, rfl, ⟨h.ly, h.n1, g1, g2, h.hp.same (fun j hj => if_neg (by omega)) (fun j q hj => if_neg fun e => by omega), f3⟩, g3, fun _ h => h, fun q hq => (by cases hq)⟩
 have e : g' = g := by
  have h2 : g ≤ g' := h2
  have h3 : g' < g + 1 := h3
  omega
 subst e
 rw [hgp]
 refine ⟨⟨d, y, k, hy, rfl, hk, by omega⟩, fun q hq => ?_⟩
 have := hmem q (inBox_at h.ly hy hk h1 hq)
 rw [hgp] at this; exact this
theorem step_sto (h : Pre tx nt N L ops X0 bs A fr m γ X) {b g : Nat} {y : Ly} {k p sz r : Nat} (hd : o.dst = none) (hy : L.get b = some y) (hk : y.h = .b k) (h1 : 1 ≤ k) (hp : y.p ≤ p) (hps : p + sz ≤ y.p + k) (hsz : 1 ≤ sz) (h0 : r % 8 ≠ 0) (hr : r < 2 ^ (72 * sz)) (hb : BoxAt N X fr b y.p k g) (hwr : wr = rngL p sz) {j40 : Nat} (hj : j40 < 2 ^ 40)
 (hst : ∀ (X' : Loc → Vl) Q, (∀ i, i < sz → X' (.cl g (p - y.p + i)) = .c (cel r i)) → StpOk (Rel tx nt) P ops Q i X X' ⟨fun l => RT ops o l ∨ l = .mt g, fun l => wD o.dst l ∨ ∃ j, l = .cl g (p - y.p + j) ∧ j < sz, fun j => j = g, fun _ => False⟩) :
 StepR P tx nt N L ops X0 bs i fr m γ X (putF fr (72 * p) (kp N p sz) j40 r) m γ (setC X g (p - y.p) sz r) (alOffV (some b) A) (fun D => D) ⟨tmOf ops.toList o i an rd wr, rec0 i, GH, GH⟩ := by
 obtain ⟨l1, l2⟩ := h.ly.le b y hy
 have hys : y.h.sz = k := by rw [hk]; rfl
 rw [hys] at l2
 have hgp := hb.pos
 have hgg := hb.gh
 have hmem : ∀ q, q < sz → 2 * (gpos N g + (p - y.p + q)) + 1 ∈ (tmOf ops.toList o i an rd wr).w := fun q hq => by
  rw [hgp, show y.p + (p - y.p + q) = p + q by omega]; exact own_w (by rw [hwr]; exact rngL_mem sz q hq)
 have hrg := rg0 (N := N) (m := m) (γ := γ) (i := i) (τ := tmOf ops.toList o i an rd wr) h.hi
 obtain ⟨f1, f2, f3⟩ := fin_step (L := L) (fun Q => hst (setC X g (p - y.p) sz r) Q fun q hq => setC_in hq) (fun l hl => setC_out l fun h => hl (.inr h)) h.live hrg (fun l hl => .inl (by
     rcases hl with hl | hl
     · exact rt_in hl
     · subst hl
       refine .inr ⟨hgg, p - y.p + 0, ⟨b, y, k, hy, hgp.symm, hk, by omega⟩, .inr (hmem 0 (by omega))⟩)) (fun l hl => by
     rcases hl with hl | ⟨j, hl, hj⟩
     · exact wd_in hl
     · subst hl
       exact .inr ⟨hgg, hmem j hj⟩) (fun j hj => .inl (by rw [hj]; exact hgg)) (fun j hj => hj.elim)
 obtain ⟨p1, p2⟩ := put_agree (fr := fr) (N := N) (p := p) (k := j40) (by omega) (by omega) hj hr
 obtain ⟨g1, g2, g3⟩ := sto_ok (X' := setC X g (p - y.p) sz r) h.ly h.fok h.al hy hk h1 hp hps hsz p1 p2 (by rw [cel0_mod]; omega) hb (fun _ => rfl) (fun q hq => setC_in hq) (fun q hq => if_neg fun e => hq ⟨e.2.1, e.2.2⟩) (fun _ _ => rfl) (fun g' q _ hne => if_neg fun e => hne e.1)
 exact ⟨f1, f2, hrg, ix0, rfl, ⟨h.ly, h.n1, g1, g2, h.hp.same (fun _ _ => rfl) (fun j q hj => if_neg fun e => by omega), f3⟩, g3, fun _ h => h, fun q hq => by cases hq⟩
end
end Go.Proofs.YtehpobojopmilaaGreat.Ev
namespace Go.Proofs.YtehpobojopmilaaGreat.Ev
set_option linter.unusedVariables false
set_option linter.unusedSimpArgs false
open Go
set_option maxRecDepth 4000
def CallsOk (P : Program) (tx : Tx) (TY : T TI) (call : Nat → Nat → Me → KM → Bool) : Prop := ∀ g a m κ, call g a m κ = true → m.lg = [] → CallPre P tx TY g a m → ∃ v m', κ v m' = true ∧ CallOk P tx TY g a m v m'
section
variable {P : Program} {TY : T TI} {tx : Tx} {nt N : Nat} {L : T Ly} {ops : Array Oper} {X0 : Loc → Vl} {i : Nat} {A : List Al} {fr : Nat} {m : Me} {γ : Nat} {X : Loc → Vl} {o : Oper} {an : Nat} {t : Tr}
def Next (P : Program) (tx : Tx) (nt N : Nat) (L : T Ly) (ops : Array Oper) (X0 : Loc → Vl) (i an : Nat) (τ : Tm) (A' : List Al) (Dm : List Nat → List Nat) (c : Ct) (κ : KM) (r : KG) (fr : Nat) (m : Me) (γ : Nat) (X : Loc → Vl) (t : Tr) : Prop :=
 ∃ fr' m' γ' X' x t', r c κ fr' m' t' = true ∧ StepR P tx nt N L ops X0 c.bs i fr m γ X fr' m' γ' X' A' Dm x ∧ x.τ = τ ∧ ((t' = t ∧ x.r = rec0 i) ∨ (t' = x.r :: t ∧ x.r.an = an))
theorem isLd_b {dst : Option Nat} (h : isLd L dst = true) : ∃ d y k, dst = some d ∧ L.get d = some y ∧ y.h = .b k := by
 cases dst with
 | none => cases h
 | some d =>
  have h : Option.rec false (fun y : Ly => match y.h with | .b _ => true | _ => false) (L.get d) = true := h
  cases e : L.get d with
  | none => rw [e] at h; cases h
  | some y =>
   rw [e] at h
   have h : (match y.h with | .b _ => true | _ => false) = true := h
   split at h
   · rename_i k hk; exact ⟨d, y, k, rfl, e, hk⟩
   · cases h
theorem isLd_n {dst : Option Nat} (h : isLd L dst = false) {d : Nat} {y : Ly} (hd : dst = some d) (hy : L.get d = some y) (k : Nat) : y.h ≠ .b k := by
 subst hd
 have h : Option.rec false (fun y : Ly => match y.h with | .b _ => true | _ => false) (L.get d) = false := h
 rw [hy] at h
 have h : (match y.h with | .b _ => true | _ => false) = false := h
 intro e
 rw [e] at h; cases h
theorem isSm'_f {α : Type} {l : Option α} (h : isSm' l = false) : l = none := by cases l with | none => rfl | some x => cases h
theorem isSm_f {α : Type} {l : Option α} (h : isSm l = false) : l = none := by cases l with | none => rfl | some x => cases h
theorem iff_none {α : Type} {c : Bool} {k : Option α} {r : α} (h : iff' c none k = some r) : c = false ∧ k = some r := by cases c <;> simp_all [iff']
theorem inR_t {G : Option (Nat × Bool)} {x : Operand} {p sz : Nat} (h : inR L A G x p sz = true) {b : Nat} {y : Ly} (hb : baseOf A G x = some b) (hy : L.get b = some y) : p + sz ≤ y.p + y.h.sz := by
 unfold inR at h
 rw [hb] at h
 have h : Option.rec false (fun y : Ly => Nat.ble (Nat.add p sz) (Nat.add y.p y.h.sz)) (L.get b) = true := h
 rw [hy] at h
 exact ble_t h
theorem own_load (hT : ∀ t ti, TY.get t = some ti → tiOf P t = some ti) {bs : Nat} (h : Pre tx nt N L ops X0 bs A fr m γ X) (ho : ops[i]? = some o) (hg : GdOn ops X o.guard) {ty : TypeId} {x : Operand} {ti : TI} {p : Nat} (hop : o.op = .load ty x) (t1 : varOf TY ty = some ti) (ha : adr tx L A o.guard x = some p) (hr : inR L A o.guard x p ti.sz = true)
 (hdn : ∀ d, o.dst = some d → d < nt) {rd wr : List Nat} (hrd : rd = rngL p ti.sz) :
 ∃ pp : Stp Loc, pp.W = wD o.dst ∧ (∀ j, ¬ pp.L j) ∧ (∀ j, ¬ pp.N j) ∧ (∀ l, pp.R l → Ix.R L N ⟨tmOf ops.toList o i an rd wr, rec0 i, GH, GH⟩ l) ∧ ∀ Q, StpOk (Rel tx nt) P ops Q i X (setT X o.dst (.v (shOf ti) (spn fr (72 * p) (mk ti.sz)))) pp := by
 obtain ⟨t, b, y, k, e1, e2, e3, e4, e5, e6, e7, e8⟩ := adr_is h.fok h.al h.ly ha
 obtain ⟨g, g1, g2⟩ := e8 hg
 have hb := inR_t hr e2 e3
 rw [e4] at hb
 have hb : p + ti.sz ≤ y.p + k := hb
 obtain ⟨ty', g3⟩ := g1.mt
 have hpos := varPos t1
 refine ⟨⟨fun l => RT ops o l ∨ l = .mt g ∨ ∃ j, l = .cl g (p - y.p + j) ∧ j < ti.sz, wD o.dst, fun _ => False, fun _ => False⟩, rfl, fun _ h => h, fun _ h => h, fun l hl => ?_, fun Q => ?_⟩
 ·
  have hm : ∀ j, j < ti.sz → 2 * (gpos N g + (p - y.p + j)) + 1 ∈ (tmOf ops.toList o i an rd wr).r := fun j hj => by
   rw [g1.pos, show y.p + (p - y.p + j) = p + j by omega]
   exact own_r (by rw [hrd]; exact rngL_mem ti.sz j hj)
  rcases hl with hl | hl | ⟨j, hl, hj⟩
  · exact rt_in hl
  · subst hl
    exact .inr ⟨g1.gh, p - y.p + 0, ⟨b, y, k, e3, g1.pos.symm, e4, by omega⟩, .inl (hm 0 (by omega))⟩
  · subst hl
    exact .inr ⟨g1.gh, hm j hj⟩
 · refine stp_load hT t1 ho hg hop (.inl ⟨t, e1, g2⟩) g3 (by omega) (spn_lt _ _ _) (fun j hj => ?_) fun d hd => ⟨hdn d hd, by rw [hd]; exact setT_at⟩
   rw [g1.cl _ (by omega), cel_spn' hj, show y.p + (p - y.p + j) = p + j by omega]
noncomputable def DmOf (L : T Ly) (dst : Option Nat) (D : List Nat) : List Nat := iff' (isLd L dst) (Option.rec D (fun d => d :: D) dst) D
theorem ld_step (hT : ∀ t ti, TY.get t = some ti → tiOf P t = some ti) {c : Ct} {κ : KM} {r : KG} {p : POS} {d : Pl} (h : Pre tx nt N L ops X0 c.bs A fr m γ X) (ho : ops[i]? = some o) (hld : isLd L o.dst = true) (hp : cOpD P TY tx L A o = some p) (hc : cDst nt N L o.dst p.h i = some d)
 (hrun : (sdOp i an d.s d.nm d.k r p.o).f c κ fr m t = true) : o.guard = none ∧ Next P tx nt N L ops X0 i an (tmOf ops.toList o i an (ownRW TY tx L A o).1 (ownRW TY tx L A o).2) (alNew L o.dst (alOff ops.toList o.dst A)) (DmOf L o.dst) c κ r fr m γ X t := by
 unfold cOpD at hp
 rw [hld] at hp
 obtain ⟨hv, hp⟩ := iff_some (show iff' (isNewV o.op) (cOp P TY tx L A o.guard true o.op) none = some p from hp)
 obtain ⟨d0, y, k, e1, e2, e3⟩ := isLd_b hld
 have hDm : DmOf L o.dst = fun D => d0 :: D := by
  funext D
  unfold DmOf
  rw [hld, e1]; rfl
 rw [hDm]
 obtain ⟨hdn, y', e4, e5⟩ := cDst_nt hc d0 e1
 rw [e2] at e4; cases e4
 have hd : d = ⟨72 * y.p, kp N y.p k, slt i (72 * y.p)⟩ := by
  rw [e1] at hc
  obtain ⟨y2, k1, hc⟩ := bnd_some (show bnd (L.get d0) _ = some d from hc)
  obtain ⟨k2, hc⟩ := iff_some hc
  obtain ⟨k3, hc⟩ := iff_some hc
  rw [pl_eq] at hc
  rw [e2] at k1; cases k1
  rw [← Option.some.inj hc, ← e5, e3]
  rfl
 cases hop : o.op with
 | alloc ty =>
  rw [hop] at hp
  rw [cOp] at hp
  obtain ⟨ti, t1, hp⟩ := bnd_some hp
  obtain ⟨hG, hp⟩ := iff_none (show iff' (isSm' o.guard) none _ = some p from hp)
  have hG := isSm'_f hG
  refine ⟨hG, ?_⟩
  have hp := Option.some.inj hp
  subst hp
  have hk : k = ti.sz := by rw [e3] at e5; cases e5; rfl
  subst hk
  obtain ⟨_, ag, inf, z, g1, g2, g3, g4⟩ := varTy hT t1
  have hrl := g4.rl tx (fun _ => none)
  have hpos := varPos t1
  have hz0 : ti.zero % 8 ≠ 0 := by
   have := (hrl.2.2 0 (by rw [hrl.1]; omega)).ne
   rw [cel0_mod] at this; omega
  have hw : (ownRW TY tx L A o).2 = rngL y.p ti.sz := by
   unfold ownRW
   rw [hop, e1]
   show Prod.snd (Option.rec ([], []) (fun y : Ly => match y.h with | .b k => ([], rngL y.p k) | _ => ([], [])) (L.get d0) : List Nat × List Nat) = _
   rw [e2]
   show Prod.snd (match y.h with | .b k => ([], rngL y.p k) | _ => ([], [])) = _
   rw [e3]
  obtain ⟨X', g, hst⟩ := step_new (P := P) (an := an) (rd := (ownRW TY tx L A o).1) h e1 hdn e2 e3 hpos hz0 hrl.2.1 hw (ty := ty) (kp_lt i (72 * y.p)) fun g X' Q x1 x2 x3 => stp_new (k := 0) (r := ti.zero) ho (by intro j x e; rw [hG] at e; cases e) x2 x3 (fun d hd => by rw [e1] at hd; cases hd; exact hdn) fun s Y a w hY hr => by
   refine ⟨.pointer (some ⟨w.heap.size, 0, none⟩), z.cells, ?_, g4.rl tx s, fun h => absurd h (Nat.not_succ_le_zero 0), fun s' hs' hs2 d hd => ?_⟩
   · unfold execOp
     rw [hop]
     refine run_v ?_
     simp [Instr.alloc, newVar, newRow, zeroValue, typeInfo, g4.info, g4.zero, go_sem]
   · rw [e1] at hd; cases hd
     rw [x1]
     exact ⟨_, _, hs2, rfl⟩
  refine ⟨_, _, _, X', _, t, ?_, hst, rfl, .inl ⟨rfl, rfl⟩⟩
  have hrun : str (putF fr d.s d.nm d.k ti.zero) (fun fr => r c κ fr m t) = true := hrun
  rw [str_eq, hd] at hrun
  exact hrun
 | box ty x =>
  rw [hop] at hp
  rw [cOp] at hp
  obtain ⟨ti, t1, hp⟩ := bnd_some hp
  obtain ⟨ox, t2, hp⟩ := bnd_some hp
  obtain ⟨t3, hp⟩ := iff_some hp
  obtain ⟨hG, hp⟩ := iff_none (show iff' (isSm' o.guard) none _ = some p from hp)
  have hG := isSm'_f hG
  refine ⟨hG, ?_⟩
  have hp := Option.some.inj hp
  subst hp
  have hk : k = ti.sz := by rw [e3] at e5; cases e5; rfl
  subst hk
  obtain ⟨_, ag, inf, z, g1, g2, g3, g4⟩ := varTy hT t1
  have hpos := varPos t1
  have hgd : GdOn ops X o.guard := by intro j x e; rw [hG] at e; cases e
  have hcl := cOd_opd h.fok h.al h.ly hgd t2
  have t3 := shEq_eq t3
  rw [t3] at hcl
  have hlt : ox.o fr < 2 ^ (72 * ti.sz) := by
   obtain ⟨s, a, w, hr, _⟩ := h.live
   have := opd_lt ⟨s, a, w, hr⟩ hcl
   rw [shOf_sz hT (varTy hT t1).1] at this
   exact this
  have hrun : df (ox.o fr) (str (putF fr d.s d.nm d.k (ox.o fr)) fun fr => r c κ fr m t) = true := hrun
  obtain ⟨h0, hrun⟩ := df_t hrun
  have hw : (ownRW TY tx L A o).2 = rngL y.p ti.sz := by
   unfold ownRW
   rw [hop, e1]
   show Prod.snd (Option.rec ([], []) (fun y : Ly => match y.h with | .b k => ([], rngL y.p k) | _ => ([], [])) (L.get d0) : List Nat × List Nat) = _
   rw [e2]
   show Prod.snd (match y.h with | .b k => ([], rngL y.p k) | _ => ([], [])) = _
   rw [e3]
  obtain ⟨X', g, hst⟩ := step_new (P := P) (an := an) (rd := (ownRW TY tx L A o).1) h e1 hdn e2 e3 hpos h0 hlt hw (ty := ty) (kp_lt i (72 * y.p)) fun g X' Q x1 x2 x3 => stp_new (k := 0) (r := ox.o fr) ho hgd x2 x3 (fun d hd => by rw [e1] at hd; cases hd; exact hdn) fun s Y a w hY hr => by
   have hv := (opd_cl hr (fun t e => hY _ ⟨t, rfl, .inl (by rw [hop, ← e]; simp [Op.operands])⟩) hcl).1 h0
   rw [g1] at hv
   obtain ⟨f1, f2, f3⟩ := VR.cells hv g3
   refine ⟨.pointer (some ⟨w.heap.size, 0, none⟩), (a.eval x).cells, ?_, f1, fun h => absurd h (Nat.not_succ_le_zero 0), fun s' hs' hs2 d hd => ?_⟩
   · unfold execOp
     rw [hop]
     refine run_v ?_
     simp [Instr.box, newVar, newRow, go_sem]
   · rw [e1] at hd; cases hd
     rw [x1]
     exact ⟨_, _, hs2, rfl⟩
  refine ⟨_, _, _, X', _, t, ?_, hst, rfl, .inl ⟨rfl, rfl⟩⟩
  rw [str_eq, hd] at hrun
  exact hrun
 | _ => rw [hop] at hv; cases hv
end
end Go.Proofs.YtehpobojopmilaaGreat.Ev
namespace Go.Proofs.YtehpobojopmilaaGreat.Ev
set_option linter.unusedVariables false
set_option linter.unusedSimpArgs false
open Go
set_option maxRecDepth 4000
section
variable {P : Program} {TY : T TI} {tx : Tx} {nt N : Nat} {L : T Ly} {ops : Array Oper} {X0 : Loc → Vl} {i : Nat} {A : List Al} {fr : Nat} {m : Me} {γ : Nat} {X : Loc → Vl} {o : Oper} {an : Nat} {t : Tr}
theorem Pre.ex {bs : Nat} (h : Pre tx nt N L ops X0 bs A fr m γ X) : ∃ s a w, Rel tx nt s X a w := by
 obtain ⟨s, a, w, hr, _⟩ := h.live
 exact ⟨s, a, w, hr⟩
theorem ap1_none {bs : Nat} {m : Me} {κ : Me → Bool} (h : ap1 bs m none none κ = true) : κ m = true := h
theorem op_step (hT : ∀ t ti, TY.get t = some ti → tiOf P t = some ti) (hname : ∀ (f : FuncId) (fn : Func), P.funcs[f]? = some fn → (fn.name == "runtime.NumGoroutine") = false) {c : Ct} {κ : KM} {r : KG} {p : POS} {d : Pl} (hcall : CallsOk P tx TY c.call)
 (h : Pre tx nt N L ops X0 c.bs A fr m γ X) (ho : ops[i]? = some o) (hg : GdOn ops X o.guard) (hld : isLd L o.dst = false) (hp : cOp P TY tx L A o.guard false o.op = some p) (hc : cDst nt N L o.dst p.h i = some d)
 (hrun : (sdOp i an d.s d.nm d.k r p.o).f c κ fr m t = true) : Next P tx nt N L ops X0 i an (tmOf ops.toList o i an (ownRW TY tx L A o).1 (ownRW TY tx L A o).2) (alNew L o.dst (alOff ops.toList o.dst A)) (fun D => D) c κ r fr m γ X t := by
 have hcl : ∀ x, x ∈ o.op.operands → ∀ y, cOd tx L A o.guard x = some y → OpdIs tx X x y.h (y.o fr) := fun x _ y hy => cOd_opd h.fok h.al h.ly hg hy
 have hdn : ∀ d, o.dst = some d → d < nt := fun d' e => (cDst_nt hc d' e).1
 have hb : ∀ t', o.dst = some t' → ∀ k, p.h ≠ .b k := fun t' e => by
  obtain ⟨_, y, h1, h2⟩ := cDst_nt hc t' e
  intro k
  rw [← h2]
  exact isLd_n hld e h1 k
 obtain ⟨po, hs⟩ := p
 have hkd := cOp_kd o.op _ hp
 cases po with
 | mv x =>
  have hrun : str (putF fr d.s d.nm d.k (x fr)) (fun fr => r c κ fr m t) = true := hrun
  rw [str_eq] at hrun
  have hkd : isMv o.op := hkd
  cases hop : o.op with
  | move y =>
   rw [hop] at hp
   rw [cOp] at hp
   obtain ⟨oy, hy, h1, hp⟩ := bod_some hp
   cases hp
   exact ⟨_, _, _, _, _, t, hrun, step_pure (rd := (ownRW TY tx L A o).1) (wr := (ownRW TY tx L A o).2) (an := an) h (fun Q => stp_mv ho hg (.inl hop) (hcl y (by rw [hop]; simp [Op.operands]) _ h1) fun d' e => ⟨hdn d' e, by rw [e]; exact setT_at⟩) hc hb, rfl, .inl ⟨rfl, rfl⟩⟩
  | assign y =>
   rw [hop] at hp
   rw [cOp] at hp
   obtain ⟨oy, hy, h1, hp⟩ := bod_some hp
   cases hp
   exact ⟨_, _, _, _, _, t, hrun, step_pure (rd := (ownRW TY tx L A o).1) (wr := (ownRW TY tx L A o).2) (an := an) h (fun Q => stp_mv ho hg (.inr hop) (hcl y (by rw [hop]; simp [Op.operands]) _ h1) fun d' e => ⟨hdn d' e, by rw [e]; exact setT_at⟩) hc hb, rfl, .inl ⟨rfl, rfl⟩⟩
  | load ty y =>
   rw [hop] at hp
   rw [cOp] at hp
   obtain ⟨ti, t1, hp⟩ := bnd_some hp
   cases ha : adr tx L A o.guard y with
   | none =>
    rw [ha] at hp
    obtain ⟨oy, _, hp⟩ := boc_some hp
    cases hp
   | some q =>
    rw [ha] at hp
    obtain ⟨h1, hp⟩ := iff_some (show iff' (inR L A o.guard y q ti.sz) _ none = some _ from hp)
    simp only [str_eq] at hp
    have hp := Option.some.inj hp
    cases hp
    have hrd : (ownRW TY tx L A o).1 = rngL q ti.sz := by
     unfold ownRW
     rw [hop]
     show Prod.fst (Option.rec ([], []) (fun p => Option.rec ([], []) (fun ti : TI => (rngL p ti.sz, [])) (TY.get ty)) (adr tx L A o.guard y) : List Nat × List Nat) = _
     rw [ha, (varTy hT t1).1]
    obtain ⟨pp, q1, q2, q3, q4, q5⟩ := own_load (an := an) (wr := (ownRW TY tx L A o).2) hT h ho hg hop t1 ha h1 hdn hrd
    exact ⟨_, _, _, _, _, t, hrun, step_dst (rd := (ownRW TY tx L A o).1) (wr := (ownRW TY tx L A o).2) (an := an) h q5 q1 q2 q3 hc hb q4 ix0 rfl rfl rfl rfl, rfl, .inl ⟨rfl, rfl⟩⟩
  | alloc ty =>
   rw [hop] at hp
   rw [cOp] at hp
   obtain ⟨ti, t1, hp⟩ := bnd_some hp
   cases hp
  | _ => rw [hop] at hkd; exact hkd.elim
 | pu g =>
  have hrun : g fr (fun v => str (putF fr d.s d.nm d.k v) fun fr => r c κ fr m t) = true := hrun
  obtain ⟨v, h1, h2⟩ := cOp_pu hT hp hrun
  rw [str_eq] at h1
  exact ⟨_, _, _, _, _, t, h1, step_pure (rd := (ownRW TY tx L A o).1) (wr := (ownRW TY tx L A o).2) (an := an) h (fun Q => stp_pu ho hg h2 hcl fun d' e => ⟨hdn d' e, by rw [e]; exact setT_at⟩) hc hb, rfl, .inl ⟨rfl, rfl⟩⟩
 | rd g =>
  have hrun : g fr m.h (fun v q => str (putF fr d.s d.nm d.k v) fun fr => r c κ fr m (⟨i, an, [q], [], 0, 0, false⟩ :: t)) = true := hrun
  obtain ⟨v, id, co, n, h1, h2, h3, h4, h5⟩ := rd_ok (nt := nt) hT hp hrun h.hp.hp
  rw [str_eq] at h1
  exact ⟨_, _, _, _, _, _, h1, step_read (rd := (ownRW TY tx L A o).1) (wr := (ownRW TY tx L A o).2) (an := an) h h2 h3 h4 (fun Q => h5 ops i o _ Q ho rfl rfl hg hcl fun d' e => ⟨hdn d' e, by rw [e]; exact setT_at⟩) hc hb, rfl, .inr ⟨rfl, rfl⟩⟩
 | al g =>
  have hrun : g fr m.nx (fun v b => al1 m b fun m' => str (putF fr d.s d.nm d.k v) fun fr => r c κ fr m' (⟨i, an, [], [], m.nx, m'.nx, false⟩ :: t)) = true := hrun
  obtain ⟨hsc, v, bk, h1, hex, k, h2⟩ := al_ok hT hp hrun
  subst hsc
  obtain ⟨h3, h4, h', h5, h6⟩ := al1_some h1
  rw [str_eq] at h5
  have hbc : bk.c < 2 ^ (72 * bk.n) := by
   obtain ⟨s, a, w, hr⟩ := h.ex
   obtain ⟨v', cs, _, g2, _⟩ := h2 s a.eval w fun x hx y hy => opd_cl hr (fun _ _ => rfl) (hcl x hx y hy)
   exact g2.2.1
  refine ⟨_, _, _, _, _, _, h5, step_al (rd := (ownRW TY tx L A o).1) (wr := (ownRW TY tx L A o).2) (an := an) h h3 h4 h6 hbc (fun Q => ?_) hc, rfl, .inr ⟨rfl, rfl⟩⟩
  refine stp_new (k := k) (n := bk.n) (ty := bk.ty) (es := bk.es) (ex := bk.ex) ho hg (if_pos rfl) (fun q hq => if_pos ⟨rfl, hq⟩) hdn fun s Y a w hY hr => ?_
  obtain ⟨v', cs, g1, g2, g3, g4⟩ := h2 s a.eval w fun x hx y hy => opd_cl hr (fun t e => hY _ ⟨t, rfl, .inl (e ▸ hx)⟩) (hcl x hx y hy)
  exact ⟨v', cs, g1 o rfl, g2, g3, fun s' _ hs' d' e => by rw [e, setT_at]; exact Cl.of (g4 s' hs' (by omega))⟩
 | st g =>
  have hrun : g fr m.h (fun id q b => T.setK (some b) 40 m.h id fun h => r c κ fr ⟨h, m.nx, logOne c.bs q m.lg⟩ (⟨i, an, [q], [q], 0, 0, false⟩ :: t)) = true := hrun
  obtain ⟨hsc, v, id, co, n, bk, h1, h2, h3, h4, h5, h6⟩ := st_ok (nt := nt) hT hp hrun h.hp.hp h.ex hcl
  subst hsc
  obtain ⟨h', h7, h8⟩ := setK_some h5
  refine ⟨_, _, _, _, _, _, h7, step_st (rd := (ownRW TY tx L A o).1) (wr := (ownRW TY tx L A o).2) (an := an) h h1 h2 h3 h4 h8 (fun Q => h6 ops i o _ Q ho rfl rfl hg hcl (fun d' e => ⟨hdn d' e, .t [], by rw [e]; exact setT_at⟩) fun q hq => setC_in hq) hc, rfl, .inr ⟨rfl, rfl⟩⟩
 | ap g =>
  have hrun : g fr m.h m.nx (fun v rd b e => ap1 c.bs m b e fun m' => str (putF fr d.s d.nm d.k v) fun fr => r c κ fr m' (⟨i, an, rd, optL e, m.nx, m'.nx, false⟩ :: t)) = true := hrun
  obtain ⟨hsc, h1⟩ := ap_ok (nt := nt) hT hp hrun h.hp.hp
  subst hsc
  rcases h1 with ⟨v, rdl, h1, h2, h3⟩ | ⟨v, rdl, bk, e, h1, h2, h3, h4, h5⟩
  · have h1 := ap1_none h1
    rw [str_eq] at h1
    exact ⟨_, _, _, _, _, _, h1, step_keep (rd := (ownRW TY tx L A o).1) (wr := (ownRW TY tx L A o).2) (an := an) h h2 (fun Q => h3 ops i o _ Q ho rfl rfl hg hcl fun d' e => ⟨hdn d' e, by rw [e]; exact setT_at⟩) hc, rfl, .inr ⟨rfl, rfl⟩⟩
  ·
   obtain ⟨h1', hh, hlg, h6, h7⟩ : ∃ h1', (∀ j, T.get h1' j = if e = some j then none else T.get m.h j) ∧ True ∧ True ∧ al1 ⟨h1', m.nx, lgE c.bs m.lg e⟩ bk (fun m' => str (putF fr d.s d.nm d.k v) fun fr => r c κ fr m' (⟨i, an, rdl, optL e, m.nx, m'.nx, false⟩ :: t)) = true := by
    cases e with
    | none => exact ⟨m.h, fun j => (if_neg (fun e => by cases e)).symm, trivial, trivial, h1⟩
    | some id =>
     have h1 : T.setK none 40 m.h id (fun h => al1 ⟨h, m.nx, logOne c.bs (acc id 0 4095) m.lg⟩ bk (fun m' => str (putF fr d.s d.nm d.k v) fun fr => r c κ fr m' (⟨i, an, rdl, optL (some id), m.nx, m'.nx, false⟩ :: t))) = true := h1
     obtain ⟨h', g1, g2⟩ := setK_some h1
     refine ⟨h', fun j => ?_, trivial, trivial, g1⟩
     rw [g2]
     by_cases e : j = id
     · rw [if_pos e, if_pos (by rw [e])]
     · rw [if_neg e, if_neg fun h => e (Option.some.inj h).symm]
   obtain ⟨k1, k2, h', k3, k4⟩ := al1_some h7
   rw [str_eq] at k3
   refine ⟨_, _, _, _, _, _, k3, step_grow (rd := (ownRW TY tx L A o).1) (wr := (ownRW TY tx L A o).2) (an := an) h h2 h3 k1 k2 h4 hh rfl k4 (fun Q => h5 ops i o _ Q ho rfl rfl hg hcl (fun d' e => ⟨hdn d' e, by rw [e]; exact setT_at⟩) (if_pos rfl) (fun j hj => if_pos ⟨rfl, hj⟩) fun id hid => ?_) hc, rfl, .inr ⟨rfl, rfl⟩⟩
   have hne : id ≠ m.nx := fun e' => by
    have := (h3 id hid).1
    cases hb' : T.get m.h id with
    | none => exact this hb'
    | some b => have := (h.hp.hp.at_ id b hb').1; omega
   show setB (setE X e) m.nx bk (.mt id) = .no
   have e1 : setB (setE X e) m.nx bk (.mt id) = setE X e (.mt id) := if_neg hne
   rw [e1]
   exact if_pos hid
 | call g l =>
  have hrun : str (arg1 fr l) (fun a => c.call g a ⟨m.h, m.nx, []⟩ fun v m' => str (putF fr d.s d.nm d.k v) fun fr => r c κ fr ⟨m'.h, m'.nx, logAll c.bs m'.lg m.lg⟩ (⟨i, an, [], m'.lg, m.nx, m'.nx, true⟩ :: t)) = true := hrun
  rw [str_eq] at hrun
  obtain ⟨v, m', h1, h2⟩ := hcall _ _ _ _ hrun rfl (cl_pre hT hp h.hp.hp h.live hcl)
  rw [str_eq] at h1
  obtain ⟨k1, k2, k3, Xc, k4, k5, k6, k7⟩ := cl_ok hT hname hp h2 h.hp.hp h.live hcl
  exact ⟨_, _, _, _, _, _, h1, step_cl (rd := (ownRW TY tx L A o).1) (wr := (ownRW TY tx L A o).2) (an := an) h k1 k2 k3 k4 k5 k6 (fun X' Q x1 x2 => k7 ops i o X' Q ho rfl rfl hg hcl x1 x2) hc hb, rfl, .inr ⟨rfl, rfl⟩⟩
end
end Go.Proofs.YtehpobojopmilaaGreat.Ev
namespace Go.Proofs.YtehpobojopmilaaGreat.Ev
set_option linter.unusedVariables false
set_option linter.unusedSimpArgs false
open Go
set_option maxRecDepth 4000
section
variable {P : Program} {TY : T TI} {tx : Tx} {nt N : Nat} {L : T Ly} {ops : Array Oper} {X0 : Loc → Vl} {i : Nat} {A : List Al} {fr : Nat} {m : Me} {γ : Nat} {X : Loc → Vl} {o : Oper} {an : Nat} {t : Tr}
theorem ld_guard {p : POS} (hld : isLd L o.dst = true) (hp : cOpD P TY tx L A o = some p) : o.guard = none := by
 unfold cOpD at hp
 rw [hld] at hp
 obtain ⟨hv, hp⟩ := iff_some (show iff' (isNewV o.op) (cOp P TY tx L A o.guard true o.op) none = some p from hp)
 cases hop : o.op with
 | alloc ty =>
  rw [hop, cOp] at hp
  obtain ⟨ti, t1, hp⟩ := bnd_some hp
  obtain ⟨hG, hp⟩ := iff_none (show iff' (isSm' o.guard) none _ = some p from hp)
  exact isSm'_f hG
 | box ty x =>
  rw [hop, cOp] at hp
  obtain ⟨ti, t1, hp⟩ := bnd_some hp
  obtain ⟨ox, t2, hp⟩ := bnd_some hp
  obtain ⟨t3, hp⟩ := iff_some hp
  obtain ⟨hG, hp⟩ := iff_none (show iff' (isSm' o.guard) none _ = some p from hp)
  exact isSm'_f hG
 | _ => rw [hop] at hv; cases hv
theorem DmOf_n (h : isLd L o.dst = false) : DmOf L o.dst = fun D => D := by
 funext D
 unfold DmOf
 rw [h]; rfl
def GdSay (ops : Array Oper) (X : Loc → Vl) (G : Option (Nat × Bool)) (fr : Nat) : Option (Od × Nat) → Prop
 | none => G = none
 | some (od, w) => (Nat.beq (od fr) w = true → GdOn ops X G) ∧ (Nat.beq (od fr) w = false → GdOff ops X G)
theorem cGd_say (hF : FrOk L N fr X) (hA : ∀ a ∈ A, AliOk ops tx L fr X a) (hL : LyOk L N) {G G' : Option (Nat × Bool)} {c : Option (Od × Nat)} (h : cGd tx L A G' ops.toList G = some c) : GdSay ops X G fr c := by
 have := cGd_is hF hA hL h
 cases c with
 | none => exact this
 | some x => obtain ⟨od, w⟩ := x; exact this
theorem main_step (hT : ∀ t ti, TY.get t = some ti → tiOf P t = some ti) (hname : ∀ (f : FuncId) (fn : Func), P.funcs[f]? = some fn → (fn.name == "runtime.NumGoroutine") = false) {c : Ct} {κ : KM} {r f : KG} {p : POS} {d : Pl} {g : Option (Od × Nat)} (hcall : CallsOk P tx TY c.call)
 (h : Pre tx nt N L ops X0 c.bs A fr m γ X) (ho : ops[i]? = some o) (hp : cOpD P TY tx L A o = some p) (hg : cGd tx L A o.guard ops.toList o.guard = some g) (hc : cDst nt N L o.dst p.h i = some d)
 (hf : sdG d.s d.nm d.k g r (sdOp i an d.s d.nm d.k r p.o) = some ⟨f⟩) (hrun : f c κ fr m t = true) : Next P tx nt N L ops X0 i an (tmOf ops.toList o i an (ownRW TY tx L A o).1 (ownRW TY tx L A o).2) (alNew L o.dst (alOff ops.toList o.dst A)) (DmOf L o.dst) c κ r fr m γ X t := by
 have hgd := cGd_say h.fok h.al h.ly hg
 have hgo : g = none → o.guard = none := fun e => by rw [e] at hgd; exact hgd
 have on : GdOn ops X o.guard → (sdOp i an d.s d.nm d.k r p.o).f c κ fr m t = true → Next P tx nt N L ops X0 i an (tmOf ops.toList o i an (ownRW TY tx L A o).1 (ownRW TY tx L A o).2) (alNew L o.dst (alOff ops.toList o.dst A)) (DmOf L o.dst) c κ r fr m γ X t := fun hG hrun => by
  cases hld : isLd L o.dst with
  | true => exact (ld_step hT h ho hld hp hc hrun).2
  | false =>
   rw [DmOf_n hld]
   unfold cOpD at hp
   rw [hld] at hp
   exact op_step hT hname hcall h ho hG hld hp hc hrun
 cases hq : sdOp i an d.s d.nm d.k r p.o with
 | mk q =>
  rw [hq] at hf
  cases g with
  | none =>
   have hf : some (BG.mk q) = some ⟨f⟩ := hf
   cases hf
   refine on (fun j x e => ?_) (by rw [hq]; exact hrun)
   rw [hgo rfl] at e; cases e
  | some ow =>
   obtain ⟨od, w⟩ := ow
   have hf : some (BG.mk (sdGd d.s d.nm d.k od w r q)) = some ⟨f⟩ := hf
   cases hf
   have hrun : iff' (Nat.beq (od fr) w) (q c κ fr m t) (str (putF fr d.s d.nm d.k 0) fun fr => r c κ fr m t) = true := hrun
   obtain ⟨g1, g2⟩ := hgd
   cases hb : Nat.beq (od fr) w with
   | true =>
    rw [hb] at hrun
    exact on (g1 hb) (by rw [hq]; exact hrun)
   | false =>
    rw [hb] at hrun
    have hrun : str (putF fr d.s d.nm d.k 0) (fun fr => r c κ fr m t) = true := hrun
    rw [str_eq] at hrun
    have hoff := g2 hb
    have hld : isLd L o.dst = false := by
     cases hld : isLd L o.dst with
     | false => rfl
     | true =>
      obtain ⟨j, x, d', c', e, _⟩ := hoff
      rw [ld_guard hld hp] at e; cases e
    rw [DmOf_n hld]
    have hbb : ∀ t', o.dst = some t' → ∀ k, p.h ≠ .b k := fun t' e => by
     obtain ⟨_, y, h1, h2⟩ := cDst_nt hc t' e
     intro k
     rw [← h2]
     exact isLd_n hld e h1 k
    exact ⟨_, _, _, _, _, t, hrun, step_pure (rd := (ownRW TY tx L A o).1) (wr := (ownRW TY tx L A o).2) (an := an) h (fun Q => stp_off ho hoff fun d' e => ⟨(cDst_nt hc d' e).1, .inr ⟨p.h, by rw [e]; exact setT_at⟩⟩) hc hbb, rfl, .inl ⟨rfl, rfl⟩⟩
theorem loc_step (hT : ∀ t ti, TY.get t = some ti → tiOf P t = some ti) {c : Ct} {κ : KM} {r : KG} {q : LSt} (h : Pre tx nt N L ops X0 c.bs A fr m γ X) (ho : ops[i]? = some o) (hG : o.guard = none) (hq : loSt TY tx N L A o i = some q)
 (hrun : sdLs q.d.s q.d.nm q.d.k q.o r c κ fr m t = true) : o.dst = none ∧ Next P tx nt N L ops X0 i an (tmOf ops.toList o i an (ownRW TY tx L A o).1 (ownRW TY tx L A o).2) (alOffV q.b A) (fun D => D) c κ r fr m γ X t := by
 unfold loSt at hq
 split at hq
 ·
  rename_i ty a x hop
  obtain ⟨p, h1, hq⟩ := bnd_some hq
  obtain ⟨ti, t1, hq⟩ := bnd_some hq
  obtain ⟨v, h2, hq⟩ := bnd_some hq
  obtain ⟨h3, hq⟩ := iff_none (show iff' (isSm o.dst) none _ = some q from hq)
  obtain ⟨h4, hq⟩ := iff_some hq
  obtain ⟨h5, hq⟩ := iff_some hq
  rw [pl_eq] at hq
  have hq : some (LSt.mk ⟨72 * p, kp N p ti.sz, slt i (72 * p)⟩ v.o (baseOf A o.guard a)) = some q := hq
  have hq := Option.some.inj hq
  subst hq
  have hd := isSm_f h3
  refine ⟨hd, ?_⟩
  have hgd : GdOn ops X o.guard := by intro j x e; rw [hG] at e; cases e
  obtain ⟨tt, b, y, k, e1, e2, e3, e4, e5, e6, e7, e8⟩ := adr_is h.fok h.al h.ly h1
  obtain ⟨g, g1, g2⟩ := e8 hgd
  have hb := inR_t h4 e2 e3
  rw [e4] at hb
  have hb : p + ti.sz ≤ y.p + k := hb
  obtain ⟨ty', g3⟩ := g1.mt
  have hpos := varPos t1
  have hcl := cOd_opd h.fok h.al h.ly hgd h2
  have h5 := shEq_eq h5
  rw [h5] at hcl
  have hlt : v.o fr < 2 ^ (72 * ti.sz) := by
   have := opd_lt h.ex hcl
   rw [shOf_sz hT (varTy hT t1).1] at this
   exact this
  have hrun : df (v.o fr) (str (putF fr (72 * p) (kp N p ti.sz) (slt i (72 * p)) (v.o fr)) fun fr => r c κ fr m t) = true := hrun
  obtain ⟨h0, hrun⟩ := df_t hrun
  rw [str_eq] at hrun
  have hwr : (ownRW TY tx L A o).2 = rngL p ti.sz := by
   unfold ownRW
   rw [hop]
   show Prod.snd (Option.rec ([], []) (fun p => Option.rec ([], []) (fun ti : TI => ([], rngL p ti.sz)) (TY.get ty)) (adr tx L A o.guard a) : List Nat × List Nat) = _
   rw [h1, (varTy hT t1).1]
  have hst := step_sto (P := P) (an := an) (rd := (ownRW TY tx L A o).1) h hd e3 e4 e5 e6 hb hpos h0 hlt g1 hwr (kp_lt i (72 * p)) fun X' Q hX' => stp_store (id := g) (q := p - y.p) hT t1 ho hgd hop (.inl ⟨tt, e1, g2⟩) g3 (by omega) hcl h0 hX' fun d e => by rw [hd] at e; cases e
  rw [← e2] at hst
  exact ⟨_, _, _, _, _, t, hrun, hst, rfl, .inl ⟨rfl, rfl⟩⟩
 · cases hq
end
end Go.Proofs.YtehpobojopmilaaGreat.Ev
namespace Go.Proofs.YtehpobojopmilaaGreat.Ev
set_option linter.unusedVariables false
set_option linter.unusedSimpArgs false
open Go
set_option maxRecDepth 4000
section
variable {P : Program} {TY : T TI} {tx : Tx} {nt N : Nat} {L : T Ly} {ops : Array Oper} {X0 : Loc → Vl} {i bs : Nat} {A A' : List Al} {fr : Nat} {m : Me} {γ : Nat} {X : Loc → Vl} {o : Oper} {an : Nat}
theorem alOp1_wf (hT : ∀ t ti, TY.get t = some ti → tiOf P t = some ti) (h : Pre tx nt N L ops X0 bs A fr m γ X) {r : List Oper} {d : Nat} {a : Al} (ha : alOp1 TY tx L A o r d = some a) : a.t = d ∧ a.g = o.guard ∧ OdWf tx L fr a.b a.o := by
 have hadr : ∀ {x : Operand} {p : Nat}, adr tx L A o.guard x = some p → ∀ p', p ≤ p' → OdWf tx L fr (baseOf A o.guard x) ⟨oK 0, .a p'⟩ := fun hx p' hp => by
  obtain ⟨t, b, y, k, e1, e2, e3, e4, e5, e6, e7, _⟩ := adr_is h.fok h.al h.ly hx
  refine ⟨fun h => absurd rfl (h p'), fun q hq => ?_⟩
  cases hq
  exact ⟨rfl, b, y, k, e2, e3, e4, e5, by omega, e7⟩
 unfold alOp1 at ha
 split at ha
 ·
  split at ha
  · cases ha
  · cases ha
  · obtain ⟨v, h1, ha⟩ := bnd_some ha
    cases ha
    exact ⟨rfl, rfl, cOd_wf h.ly h.al h1⟩
 · obtain ⟨p, h1, ha⟩ := bnd_some ha
   cases ha
   exact ⟨rfl, rfl, hadr h1 p (Nat.le_refl _)⟩
 ·
  obtain ⟨p, h1, ha⟩ := bnd_some ha
  obtain ⟨ti, h2, ha⟩ := bnd_some ha
  obtain ⟨fs, h3, ha⟩ := bnd_some ha
  obtain ⟨oz, h4, ha⟩ := bnd_some ha
  obtain ⟨h5, ha⟩ := iff_some ha
  simp only [str_eq] at ha
  cases ha
  exact ⟨rfl, rfl, hadr h1 _ (Nat.le_add_right _ _)⟩
 ·
  split at ha
  · cases ha
  · cases ha
  ·
   obtain ⟨p, h1, ha⟩ := bnd_some ha
   obtain ⟨ti, h2, ha⟩ := bnd_some ha
   obtain ⟨h3, ha⟩ := iff_some ha
   simp only [str_eq] at ha
   cases ha
   refine ⟨rfl, rfl, fun _ => .inr ?_, fun q hq => absurd hq (shOf_na _ _)⟩
   obtain ⟨t, b, y, k, e1, e2, e3, e4, e5, e6, e7, _⟩ := adr_is h.fok h.al h.ly h1
   have hs := shOf_sz hT (varTy hT h2).1
   have hb := inR_t h3 e2 e3
   exact ⟨b, y, p, e2, e3, e6, by rw [hs]; exact hb, by rw [hs]; rfl⟩
 · cases ha
theorem ali_step (hT : ∀ t ti, TY.get t = some ti → tiOf P t = some ti) (h : Pre tx nt N L ops X0 bs A fr m γ X) (ho : ops[i]? = some o) {r : List Oper} (hal : alOp nt TY tx L ops.toList A o r = some A') :
 isLd L o.dst = false ∧ ∃ X' x, StepR P tx nt N L ops X0 bs i fr m γ X fr m γ X' A' (fun D => D) x ∧ x.τ = tmOf ops.toList o i an (ownRW TY tx L A o).1 (ownRW TY tx L A o).2 ∧ x.r = rec0 i := by
 unfold alOp at hal
 cases hd : o.dst with
 | none => rw [hd] at hal; cases hal
 | some d =>
  rw [hd] at hal
  obtain ⟨k1, hal⟩ := iff_none (show iff' (isSm (L.get d)) none _ = some A' from hal)
  obtain ⟨k2, hal⟩ := iff_some hal
  obtain ⟨k3, hal⟩ := iff_none hal
  obtain ⟨g, k4, hal⟩ := bnd_some hal
  obtain ⟨a, k5, hal⟩ := bnd_some hal
  have hal := Option.some.inj hal
  subst hal
  have k1 := isSm_f k1
  have k2 : d < nt := ble_t k2
  obtain ⟨w1, w2, w3⟩ := alOp1_wf hT h k5
  have hnp : ∀ y, L.get a.t = some y → ∃ k, y.h = .b k ∧ a.b = some a.t := fun y hy => by rw [w1, k1] at hy; cases hy
  refine ⟨?_, ?_⟩
  · show Option.rec false (fun y : Ly => match y.h with | .b _ => true | _ => false) (L.get d) = false
    rw [k1]
  have hdn : ∀ d', o.dst = some d' → d' < nt := fun d' e => by rw [hd] at e; cases e; exact k2
  have hbd : ∀ b, (∃ y, L.get b = some y) → b ≠ d := fun b ⟨y, hy⟩ e => by rw [e, k1] at hy; cases hy
  have hsay := cGd_say h.fok h.al h.ly k4
  -- the guard holds, or it does not
  have hgd : GdOn ops X o.guard ∨ GdOff ops X o.guard := by
   cases g with
   | none =>
    left
    intro j x e
    have hsay : o.guard = none := hsay
    rw [hsay] at e; cases e
   | some ow =>
    obtain ⟨od, w⟩ := ow
    obtain ⟨g1, g2⟩ := hsay
    cases hb : Nat.beq (od fr) w with
    | true => exact .inl (g1 hb)
    | false => exact .inr (g2 hb)
  rcases hgd with hon | hoff
  ·
   -- it is run
   have fin : ∀ (x : Vl) (pp : Stp Loc), (∀ Q, StpOk (Rel tx nt) P ops Q i X (setT X o.dst x) pp) → pp.W = wD o.dst → (∀ j, ¬ pp.L j) → (∀ j, ¬ pp.N j) → (∀ l, pp.R l → Ix.R L N ⟨tmOf ops.toList o i an (ownRW TY tx L A o).1 (ownRW TY tx L A o).2, rec0 i, GH, GH⟩ l) → OdIs L (setT X o.dst x) fr a.b a.o a.t →
    ∃ X' x, StepR P tx nt N L ops X0 bs i fr m γ X fr m γ X' (a :: alOff ops.toList (some d) A) (fun D => D) x ∧ x.τ = tmOf ops.toList o i an (ownRW TY tx L A o).1 (ownRW TY tx L A o).2 ∧ x.r = rec0 i := fun x pp q1 q2 q3 q4 q5 q6 =>
    ⟨_, _, step_al0 (rd := (ownRW TY tx L A o).1) (wr := (ownRW TY tx L A o).2) (an := an) h hd k1 k3 q1 q2 q3 q4 q5 ⟨hnp, w3, fun _ => q6⟩, rfl, rfl⟩
   have hat : ∀ x, setT X o.dst x (.tm a.t) = x := fun x => by rw [hd, w1]; exact setT_at
   have hbt : ∀ x b, (∃ y, L.get b = some y) → setT X o.dst x (.tm b) = X (.tm b) := fun x b hb => setT_ne (by rw [hd]; intro e; exact hbd b hb (Option.some.inj e).symm)
   have hsd : ∀ x d', o.dst = some d' → d' < nt ∧ setT X o.dst x (.tm d') = x := fun x d' e => ⟨hdn d' e, by rw [e]; exact setT_at⟩
   have gp : ∀ {x : Operand} {p : Nat}, adr tx L A o.guard x = some p → ∃ t b y g, x = .tmp t ∧ baseOf A o.guard x = some b ∧ L.get b = some y ∧ y.p ≤ p ∧ X (.tm b) = .gp g 0 ∧ X (.tm t) = .gp g (p - y.p) := fun hx => by
    obtain ⟨t, b, y, k, e1, e2, e3, e4, e5, e6, e7, e8⟩ := adr_is h.fok h.al h.ly hx
    obtain ⟨g, g1, g2⟩ := e8 hon
    exact ⟨t, b, y, g, e1, e2, e3, e6, g1.tm, g2⟩
   unfold alOp1 at k5
   split at k5
   ·
    rename_i x hop
    split at k5
    · cases k5
    · cases k5
    ·
     obtain ⟨v, h1, k5⟩ := bnd_some k5
     cases k5
     by_cases hp : ∃ p, v.h = .a p
     ·
      obtain ⟨p, hp⟩ := hp
      obtain ⟨_, b, y, k, e2, e3, e4, e5, e6, e7⟩ := (cOd_wf h.ly h.al h1).2 p hp
      cases x with
      | tmp t =>
       obtain ⟨b', y', g', f1, f2, f3, f4⟩ := (cOd_is h.fok h.al h.ly hon h1).2 p hp
       refine fin (.gp g' (p - y'.p)) ⟨RT ops o, wD o.dst, fun _ => False, fun _ => False⟩ (fun Q => stp_gp (y := 0) ho hon (.inl hop) f4 (hsd _)) rfl (fun _ h => h) (fun _ h => h) (fun l hl => rt_in hl) ⟨fun h => absurd hp (h p), fun q hq => ?_⟩
       have hq : v.h = .a q := hq
       rw [hp] at hq; cases hq
       exact ⟨b', y', g', f1, f2, by rw [hbt _ b' ⟨y', f2⟩]; exact f3, hat _⟩
      | const c =>
       have e2 : (none : Option Nat) = some b := e2
       cases e2
      | _ => cases h1
     · have hp : ∀ p, v.h ≠ .a p := fun p e => hp ⟨p, e⟩
       refine fin (.v v.h (v.o fr)) ⟨RT ops o, wD o.dst, fun _ => False, fun _ => False⟩ (fun Q => stp_mv ho hon (.inl hop) (cOd_opd h.fok h.al h.ly hon h1) (hsd _)) rfl (fun _ h => h) (fun _ h => h) (fun l hl => rt_in hl) ⟨fun _ => hat _, fun q hq => absurd hq (hp q)⟩
   ·
    rename_i x hop
    obtain ⟨p, h1, k5⟩ := bnd_some k5
    cases k5
    obtain ⟨t, b, y, g', e1, e2, e3, e6, f1, f2⟩ := gp h1
    subst e1
    refine fin (.gp g' (p - y.p)) ⟨RT ops o, wD o.dst, fun _ => False, fun _ => False⟩ (fun Q => stp_gp (y := 0) ho hon (.inr hop) f2 (hsd _)) rfl (fun _ h => h) (fun _ h => h) (fun l hl => rt_in hl) ⟨fun h => absurd rfl (h p), fun q hq => ?_⟩
    cases hq
    exact ⟨b, y, g', e2, e3, by rw [hbt _ b ⟨y, e3⟩]; exact f1, hat _⟩
   ·
    rename_i s x f hop
    obtain ⟨p, h1, k5⟩ := bnd_some k5
    obtain ⟨ti, h2, k5⟩ := bnd_some k5
    obtain ⟨fs, h3, k5⟩ := bnd_some k5
    obtain ⟨oz, h4, k5⟩ := bnd_some k5
    obtain ⟨h5, k5⟩ := iff_some k5
    simp only [str_eq] at k5
    cases k5
    obtain ⟨t, b, y, g', e1, e2, e3, e6, f1, f2⟩ := gp h1
    subst e1
    refine fin (.gp g' (p - y.p + oz.1)) ⟨RT ops o, wD o.dst, fun _ => False, fun _ => False⟩ (fun Q => stp_gf hT h2 h3 h4 (ble_t h5) ho hon hop f2 (hsd _)) rfl (fun _ h => h) (fun _ h => h) (fun l hl => rt_in hl) ⟨fun h => absurd rfl (h _), fun q hq => ?_⟩
    cases hq
    refine ⟨b, y, g', e2, e3, by rw [hbt _ b ⟨y, e3⟩]; exact f1, ?_⟩
    rw [hat]
    congr 1
    show p - y.p + oz.1 = p + oz.1 - y.p
    omega
   ·
    rename_i ty x hop
    split at k5
    · cases k5
    · cases k5
    ·
     obtain ⟨p, h1, k5⟩ := bnd_some k5
     obtain ⟨ti, h2, k5⟩ := bnd_some k5
     obtain ⟨h3, k5⟩ := iff_some k5
     simp only [str_eq] at k5
     cases k5
     have hrd : (ownRW TY tx L A o).1 = rngL p ti.sz := by
      unfold ownRW
      rw [hop]
      show Prod.fst (Option.rec ([], []) (fun p => Option.rec ([], []) (fun ti : TI => (rngL p ti.sz, [])) (TY.get ty)) (adr tx L A o.guard x) : List Nat × List Nat) = _
      rw [h1, (varTy hT h2).1]
     obtain ⟨pp, q1, q2, q3, q4, q5⟩ := own_load (an := an) (wr := (ownRW TY tx L A o).2) hT h ho hon hop h2 h1 h3 hdn hrd
     exact fin _ pp q5 q1 q2 q3 q4 ⟨fun _ => hat _, fun q hq => absurd hq (shOf_na _ _)⟩
   · cases k5
  ·
   -- it is not
   obtain ⟨j, x, dg, c, e1, e2, e3, e4⟩ := hoff
   refine ⟨_, _, step_al0 (rd := (ownRW TY tx L A o).1) (wr := (ownRW TY tx L A o).2) (an := an) (x := .no) h hd k1 k3 (fun Q => stp_off ho ⟨j, x, dg, c, e1, e2, e3, e4⟩ fun d' e => ⟨hdn d' e, .inl (by rw [e]; exact setT_at)⟩) rfl (fun _ h => h) (fun _ h => h) (fun l hl => rt_in hl) ⟨hnp, w3, fun hG => ?_⟩, rfl, rfl⟩
   exfalso
   obtain ⟨dg', f1, f2⟩ := hG j x (by rw [w2]; exact e1)
   rw [e2] at f1; cases f1
   by_cases hdg : dg = d
   · subst hdg
     rw [hd, setT_at] at f2; cases f2
   · rw [setT_ne (by rw [hd]; intro e; exact hdg (Option.some.inj e).symm), e3] at f2
     cases f2
     rw [Nat.beq_refl] at e4; cases e4
end
end Go.Proofs.YtehpobojopmilaaGreat.Ev
namespace Go.Proofs.YtehpobojopmilaaGreat.Ev
set_option linter.unusedVariables false
set_option linter.unusedSimpArgs false
open Go
set_option maxRecDepth 4000
theorem tb_bit {m i : Nat} : tb m i = true ↔ m.testBit i = true := by
 unfold tb
 rw [show Nat.land (Nat.shiftRight m i) 1 = (m >>> i) % 2 from by rw [show (1 : Nat) = 2 ^ 1 - 1 from rfl, land_mod]; rfl]
 rw [Nat.testBit_eq_decide_div_mod_eq, Nat.shiftRight_eq_div_pow]
 constructor
 · intro h; exact decide_eq_true (beq_t h)
 · intro h; rw [of_decide_eq_true h]; rfl
theorem ancOf_mem {done : List Nat} {o : Oper} {q : Nat} (h : tb (ancOf done o) q = true) : ∃ e ∈ o.after, Region.binds .any e = true ∧ (q = e.on ∨ ∃ a, done[e.on]? = some a ∧ tb a q = true) := by
 have key : ∀ (l : List Edge) (s : Nat), tb (l.foldl (fun s e => iff' (Region.binds .any e) (Nat.lor (Nat.lor s (Nat.shiftLeft 1 e.on)) (Option.rec 0 (fun x => x) (nth done e.on))) s) s) q = true → tb s q = true ∨ ∃ e ∈ l, Region.binds .any e = true ∧ (q = e.on ∨ ∃ a, done[e.on]? = some a ∧ tb a q = true) := by
  intro l
  induction l with
  | nil => intro s h; exact .inl h
  | cons e l ih =>
   intro s h
   rw [List.foldl_cons] at h
   rcases ih _ h with h1 | ⟨e', h1, h2⟩
   ·
    cases hb : Region.binds .any e with
    | false => rw [hb] at h1; exact .inl h1
    | true =>
     rw [hb] at h1
     have h1 : tb (Nat.lor (Nat.lor s (Nat.shiftLeft 1 e.on)) (Option.rec 0 (fun x => x) (nth done e.on))) q = true := h1
     rw [tb_bit] at h1
     have h1 : ((s ||| (1 <<< e.on)) ||| (Option.rec 0 (fun x => x) (nth done e.on) : Nat)).testBit q = true := h1
     rw [Nat.testBit_or, Nat.testBit_or, Bool.or_eq_true, Bool.or_eq_true] at h1
     rcases h1 with (h1 | h1) | h1
     · exact .inl (tb_bit.2 h1)
     · rw [Nat.one_shiftLeft, Nat.testBit_two_pow] at h1
       exact .inr ⟨e, List.mem_cons_self, hb, .inl (of_decide_eq_true h1).symm⟩
     · rw [nth_eq] at h1
       cases hd : done[e.on]? with
       | none =>
        rw [hd] at h1
        have h1 : (0 : Nat).testBit q = true := h1
        simp at h1
       | some a =>
        rw [hd] at h1
        exact .inr ⟨e, List.mem_cons_self, hb, .inr ⟨a, hd, tb_bit.2 h1⟩⟩
   · exact .inr ⟨e', List.mem_cons_of_mem _ h1, h2⟩
 rcases key _ 0 h with h | ⟨e, h1, h2⟩
 · rw [tb_bit] at h; simp at h
 · exact ⟨e, Array.mem_toList_iff.1 h1, h2⟩
theorem allB_t {α : Type} {p : α → Bool} : ∀ {l : List α}, allB p l = true → ∀ x ∈ l, p x = true
 | [], _, x, hx => by cases hx
 | y :: l, h, x, hx => by
  have h : iff' (p y) (allB p l) false = true := h
  obtain ⟨h1, h2⟩ := iff_tt h
  rcases List.mem_cons.1 hx with rfl | hx
  · exact h1
  · exact allB_t h2 x hx
theorem inL_t {x : Nat} : ∀ {l : List Nat}, inL x l = false → x ∉ l
 | [], _, h => by cases h
 | y :: l, h, hx => by
  have h : iff' (Nat.beq x y) true (inL x l) = false := h
  cases e : Nat.beq x y with
  | true => rw [e] at h; cases h
  | false =>
   rw [e] at h
   rcases List.mem_cons.1 hx with rfl | hx
   · rw [Nat.beq_refl] at e; cases e
   · exact inL_t h hx
theorem meet_t {b : List Nat} : ∀ {a : List Nat}, meet a b = false → ∀ x ∈ a, x ∉ b
 | [], _, x, h => by cases h
 | y :: a, h, x, hx => by
  have h : iff' (inL y b) true (meet a b) = false := h
  cases e : inL y b with
  | true => rw [e] at h; cases h
  | false =>
   rw [e] at h
   rcases List.mem_cons.1 hx with rfl | hx
   · exact inL_t e
   · exact meet_t h x hx
theorem tmPair_t {a b : Tm} (h : tmPair a b = true) : tb b.an a.i = true ∨ TmFree a b := by
 unfold tmPair at h
 cases h1 : tb b.an a.i with
 | true => exact .inl rfl
 | false =>
  rw [h1] at h
  obtain ⟨h2, h⟩ := iff_ft (show iff' (meet a.w b.r) false (iff' (meet a.w b.w) false (neg (meet b.w a.r))) = true from h)
  obtain ⟨h3, h⟩ := iff_ft h
  have h4 : meet b.w a.r = false := by cases e : meet b.w a.r with
   | false => rfl
   | true => rw [e] at h; cases h
  exact .inr ⟨fun x hx => ⟨meet_t h2 x hx, meet_t h3 x hx⟩, fun x hx => meet_t h4 x hx⟩
section
variable {P : Program} {TY : T TI} {tx : Tx} {nt N : Nat} {L : T Ly} {ops : Array Oper} {X0 : Loc → Vl} {A : List Al}
structure RunOk (P : Program) (tx : Tx) (nt N : Nat) (L : T Ly) (ops : Array Oper) (X0 : Loc → Vl) (bs : Nat) (dr : Bool) (i : Nat) (ts : List Tm) (t : Tr) (m : Me) (γ : Nat) (X : Loc → Vl) (m' : Me) (γ' : Nat) (Xs : Nat → Loc → Vl) (ix : Nat → Ix) (tf : Tr) : Prop where
 x0 : Xs i = X
 st : ∀ k, i ≤ k → k < ops.size → ∀ Q, StpOk (Rel tx nt) P ops Q k (Xs k) (Xs (k + 1)) ((ix k).stp L N)
 out : ∀ k, i ≤ k → k < ops.size → ∀ l, ¬ (ix k).W L N l → Xs (k + 1) l = Xs k l
 ok : ∀ k, i ≤ k → k < ops.size → IxOk L N (ix k) ∧ (ix k).r.i = k
 rg : ∀ k, i ≤ k → k < ops.size → ((ix k).r.a0 < (ix k).r.a1 → m.nx ≤ (ix k).r.a0 ∧ (ix k).r.a1 ≤ m'.nx) ∧ ((ix k).g0 < (ix k).g1 → GH + γ * N ≤ (ix k).g0 ∧ (ix k).g1 ≤ GH + γ' * N)
 mo : ∀ k k', i ≤ k → k < k' → k' < ops.size → Mo (ix k).r (ix k').r ∧ ((ix k).g0 < (ix k).g1 → (ix k').g0 < (ix k').g1 → (ix k).g1 ≤ (ix k').g0)
 tm : dr = true → ∀ k, i ≤ k → k < ops.size → (∀ a ∈ ts, tmPair a (ix k).τ = true) ∧ (ix k).τ.i = k ∧ ∀ q, tb (ix k).τ.an q = true → Anc ops k q
 tp : dr = true → ∀ k k', i ≤ k → k < k' → k' < ops.size → tmPair (ix k).τ (ix k').τ = true
 tr : (dr = true → pairs tf = true) ∧ (∀ x ∈ t, x ∈ tf) ∧ ∀ k, i ≤ k → k < ops.size → (ix k).r = rec0 k ∨ ((ix k).r ∈ tf ∧ (dr = true → ∀ q, tb (ix k).r.an q = true → Anc ops k q))
 ed : dr = true → ∀ k, i ≤ k → k < ops.size → ∀ o e, ops[k]? = some o → e ∈ o.after → Region.binds .any e = true → e.on < k
 lg : ∀ q, q ∈ m.lg → q ∈ m'.lg
 lw : ∀ k, i ≤ k → k < ops.size → ∀ q, q ∈ (ix k).r.wr → bs ≤ accI q ∨ ∃ q', q' ∈ m'.lg ∧ accI q' = accI q
 nx : m.nx ≤ m'.nx
 gl : γ ≤ γ'
theorem RunOk.cons {bs : Nat} {dr : Bool} {i : Nat} {ts : List Tm} {t t1 : Tr} {fr fr1 : Nat} {m m1 m' : Me} {γ γ1 γ' : Nat} {X X1 : Loc → Vl} {A A1 : List Al} {Dm : List Nat → List Nat} {Xs : Nat → Loc → Vl} {ix : Nat → Ix} {tf : Tr} {x : Ix} {o : Oper} {an : Nat}
 (h : StepR P tx nt N L ops X0 bs i fr m γ X fr1 m1 γ1 X1 A1 Dm x) (hi : i < ops.size) (k : RunOk P tx nt N L ops X0 bs dr (i + 1) (x.τ :: ts) t1 m1 γ1 X1 m' γ' Xs ix tf) (ht : (t1 = t ∧ x.r = rec0 i) ∨ (t1 = x.r :: t ∧ x.r.an = an)) (hτ : dr = true → x.τ.i = i ∧ x.τ.an = an ∧ (∀ q, tb an q = true → Anc ops i q) ∧ ∀ a ∈ ts, tmPair a x.τ = true)
 (he : dr = true → ∀ o e, ops[i]? = some o → e ∈ o.after → Region.binds .any e = true → e.on < i) :
 RunOk P tx nt N L ops X0 bs dr i ts t m γ X m' γ' (fun k => if k = i then X else Xs k) (fun k => if k = i then x else ix k) tf := by
 have e0 : ∀ k, i ≤ k → k ≠ i → i + 1 ≤ k := fun k h1 h2 => by omega
 have hn1 : ∀ k, (fun k => if k = i then X else Xs k) (k + 1) = if k + 1 = i then X else Xs (k + 1) := fun k => rfl
 have hx1 : Xs (i + 1) = X1 := k.x0
 have hmul : γ * N ≤ γ1 * N := Nat.mul_le_mul_right _ h.rg.gl
 have hmul1 : γ1 * N ≤ γ' * N := Nat.mul_le_mul_right _ k.gl
 have hnx := h.rg.nx
 refine ⟨if_pos rfl, fun q h1 h2 Q => ?_, fun q h1 h2 l hl => ?_, fun q h1 h2 => ?_, fun q h1 h2 => ?_, fun q q' h1 h2 h3 => ?_, fun hd q h1 h2 => ?_, fun hd q q' h1 h2 h3 => ?_, ⟨k.tr.1, fun y hy => ?_, fun q h1 h2 => ?_⟩, fun hd q h1 h2 => ?_, fun q hq => k.lg q (h.lg q hq), fun q h1 h2 y hy => ?_, Nat.le_trans hnx k.nx, Nat.le_trans h.rg.gl k.gl⟩
 ·
  by_cases e : q = i
  · simp only [if_pos e, if_neg (show ¬ q + 1 = i by omega)]
    subst e
    rw [hx1]
    exact h.st Q
  · simp only [if_neg e, if_neg (show ¬ q + 1 = i by omega)]
    exact k.st q (e0 q h1 e) h2 Q
 ·
  by_cases e : q = i
  · simp only [if_pos e, if_neg (show ¬ q + 1 = i by omega)] at hl ⊢
    subst e
    rw [hx1]
    exact h.out l hl
  · simp only [if_neg e, if_neg (show ¬ q + 1 = i by omega)] at hl ⊢
    exact k.out q (e0 q h1 e) h2 l hl
 ·
  by_cases e : q = i
  · simp only [if_pos e]
    subst e
    exact ⟨h.ix, h.ri⟩
  · simp only [if_neg e]
    exact k.ok q (e0 q h1 e) h2
 ·
  by_cases e : q = i
  ·
   simp only [if_pos e]
   subst e
   refine ⟨fun g => ?_, fun g => ?_⟩
   · obtain ⟨g1, g2⟩ := h.rg.rg g
     have := k.nx
     exact ⟨by omega, by omega⟩
   · obtain ⟨g1, g2⟩ := h.rg.gg g
     exact ⟨g1, by omega⟩
  · simp only [if_neg e]
    obtain ⟨g1, g2⟩ := k.rg q (e0 q h1 e) h2
    exact ⟨fun g => ⟨by have := (g1 g).1; omega, (g1 g).2⟩, fun g => ⟨by have := (g2 g).1; omega, (g2 g).2⟩⟩
 ·
  have e' : ¬ q' = i := by omega
  simp only [if_neg e']
  by_cases e : q = i
  ·
   simp only [if_pos e]
   subst e
   obtain ⟨g1, g2⟩ := k.rg q' (by omega) h3
   refine ⟨⟨fun f1 f2 => ?_, fun f1 f2 => ?_⟩, fun f1 f2 => ?_⟩
   · have := (h.rg.rg f1).2
     have := (g1 f2).1
     omega
   · have := (h.rg.rc f1).1
     have := (g1 f2).1
     omega
   · have := (h.rg.gg f1).2
     have := (g2 f2).1
     omega
  · simp only [if_neg e]
    exact k.mo q q' (e0 q h1 e) h2 h3
 ·
  by_cases e : q = i
  · simp only [if_pos e]
    subst e
    obtain ⟨g1, g2, g3, g4⟩ := hτ hd
    exact ⟨g4, g1, fun q' hq => g3 q' (by rw [← g2]; exact hq)⟩
  · simp only [if_neg e]
    obtain ⟨g1, g2⟩ := k.tm hd q (e0 q h1 e) h2
    exact ⟨fun a ha => g1 a (List.mem_cons_of_mem _ ha), g2⟩
 ·
  have e' : ¬ q' = i := by omega
  simp only [if_neg e']
  by_cases e : q = i
  · simp only [if_pos e]
    subst e
    exact (k.tm hd q' (by omega) h3).1 _ List.mem_cons_self
  · simp only [if_neg e]
    exact k.tp hd q q' (e0 q h1 e) h2 h3
 · refine k.tr.2.1 y ?_
   rcases ht with ⟨rfl, _⟩ | ⟨rfl, _⟩
   · exact hy
   · exact List.mem_cons_of_mem _ hy
 ·
  by_cases e : q = i
  · simp only [if_pos e]
    subst e
    rcases ht with ⟨_, g⟩ | ⟨g, g'⟩
    · exact .inl g
    · exact .inr ⟨k.tr.2.1 _ (by rw [g]; exact List.mem_cons_self), fun hd q' hq => (hτ hd).2.2.1 q' (by rw [← g']; exact hq)⟩
  · simp only [if_neg e]
    exact k.tr.2.2 q (e0 q h1 e) h2
 · by_cases e : q = i
   · subst e; exact he hd
   · exact k.ed hd q (e0 q h1 e) h2
 ·
  by_cases e : q = i
  · simp only [if_pos e] at hy
    subst e
    rcases h.lw y hy with g | ⟨y', g, g'⟩
    · exact .inl g
    · exact .inr ⟨y', k.lg y' g, g'⟩
  · simp only [if_neg e] at hy
    exact k.lw q (e0 q h1 e) h2 y hy
end
end Go.Proofs.YtehpobojopmilaaGreat.Ev
namespace Go.Proofs.YtehpobojopmilaaGreat.Ev
set_option linter.unusedVariables false
set_option linter.unusedSimpArgs false
open Go
set_option maxRecDepth 4000
section
variable {P : Program} {TY : T TI} {tx : Tx} {nt N : Nat} {L : T Ly} {ops : Array Oper} {X0 : Loc → Vl}
theorem chk_t {dr a b : Bool} (h : iff' dr (iff' a b false) true = true) : dr = true → a = true ∧ b = true := fun e => by
 rw [e] at h
 exact iff_tt (show iff' a b false = true from h)
theorem cOps_ok (hT : ∀ t ti, TY.get t = some ti → tiOf P t = some ti) (hname : ∀ (f : FuncId) (fn : Func), P.funcs[f]? = some fn → (fn.name == "runtime.NumGoroutine") = false) {dr : Bool} {c : Ct} {κ : KM} (hcall : CallsOk P tx TY c.call) :
 ∀ (l : List Oper) (i : Nat) (A : List Al) (done : List Nat) (ts : List Tm) (D : List Nat) (f : KG) (fr : Nat) (m : Me) (γ : Nat) (X : Loc → Vl) (t : Tr), ops.toList.drop i = l → i ≤ ops.size → cOps P TY tx nt N L dr ops.toList l A i done ts = some ⟨f⟩ → Pre tx nt N L ops X0 c.bs A fr m γ X → NZ L fr D → f c κ fr m t = true →
  (dr = true → done.length = i ∧ ∀ k a, done[k]? = some a → ∀ q, tb a q = true → Anc ops k q) →
  ∃ Xs ix fr' m' γ' A' tf, RunOk P tx nt N L ops X0 c.bs dr i ts t m γ X m' γ' Xs ix tf ∧ Pre tx nt N L ops X0 c.bs A' fr' m' γ' (Xs ops.size) ∧ NZ L fr' (dOps L l D) ∧ κ fr' m' = true
 | [], i, A, done, ts, D, f, fr, m, γ, X, t, hl, hi, hc, h, hD, hrun, _ => by
  rw [cOps] at hc
  cases hc
  have hin : i = ops.size := by
   have := congrArg List.length hl
   simp at this; omega
  subst hin
  have hrun : iff' dr (iff' (pairs t) (κ fr m) false) (κ fr m) = true := hrun
  have h2 : κ fr m = true ∧ (dr = true → pairs t = true) := by
   cases dr with
   | false => exact ⟨hrun, fun e => by cases e⟩
   | true =>
    obtain ⟨h1, h2⟩ := iff_tt (show iff' (pairs t) (κ fr m) false = true from hrun)
    exact ⟨h2, fun _ => h1⟩
  refine ⟨fun _ => X, fun _ => ⟨⟨0, 0, [], []⟩, rec0 0, GH, GH⟩, fr, m, γ, A, t, ⟨rfl, fun k h1 h2 => (by omega), fun k h1 h2 => (by omega), fun k h1 h2 => (by omega), fun k h1 h2 => (by omega), fun k k' h1 h2 h3 => (by omega), fun _ k h1 h2 => (by omega), fun _ k k' h1 h2 h3 => (by omega), ⟨h2.2, fun x hx => hx, fun k h1 h2 => (by omega)⟩, fun _ k h1 h2 => (by omega), fun q hq => hq, fun k h1 h2 => (by omega), Nat.le_refl _, Nat.le_refl _⟩, h, hD, h2.1⟩
 | o :: r, i, A, done, ts, D, f, fr, m, γ, X, t, hl, hi, hc, h, hD, hrun, hdone => by
  have ho : ops[i]? = some o := by
   rw [← Array.getElem?_toList]
   have := congrArg (fun l => l[0]?) hl
   simpa using this
  have hin : i < ops.size := (Array.getElem?_eq_some_iff.1 ho).1
  have hl' : ops.toList.drop (i + 1) = r := by
   have := congrArg List.tail hl
   simpa using this
  rw [cOps] at hc
  rw [str_eq] at hc
  obtain ⟨an, han⟩ : ∃ an, an = iff' dr (ancOf done o) 0 := ⟨_, rfl⟩
  rw [← han] at hc
  obtain ⟨tm, htm⟩ : ∃ tm, tm = tmOf ops.toList o i an (ownRW TY tx L A o).1 (ownRW TY tx L A o).2 := ⟨_, rfl⟩
  rw [← htm] at hc
  obtain ⟨hchk, hc⟩ := iff_some (show iff' (iff' dr (iff' (edgesOk o i) (tmAll ts tm) false) true) _ none = some _ from hc)
  have hchk := chk_t hchk
  have han' : dr = true → ∀ q, tb an q = true → Anc ops i q := fun hd q hq => by
   rw [han, hd] at hq
   obtain ⟨e, e1, e2, e3⟩ := ancOf_mem (show tb (ancOf done o) q = true from hq)
   rcases e3 with rfl | ⟨a, e3, e4⟩
   · exact .one ho e1 e2
   · exact .tr ho e1 e2 ((hdone hd).2 _ a e3 q e4)
  have hdone' : dr = true → (appL done [an]).length = i + 1 ∧ ∀ k a, (appL done [an])[k]? = some a → ∀ q, tb a q = true → Anc ops k q := fun hd => by
   obtain ⟨d1, d2⟩ := hdone hd
   rw [appL_eq]
   refine ⟨by simp [d1], fun k a hk q hq => ?_⟩
   by_cases hki : k < i
   · rw [List.getElem?_append_left (by omega)] at hk
     exact d2 k a hk q hq
   ·
    rw [List.getElem?_append_right (by omega)] at hk
    have hk0 : k - done.length = 0 := by
     have := (List.getElem?_eq_some_iff.1 hk).1
     simp at this; omega
    rw [hk0] at hk
    have : k = i := by omega
    subst this
    have hk : an = a := Option.some.inj hk
    subst hk
    exact han' hd q hq
  have hτ : ∀ x : Ix, x.τ = tm → dr = true → x.τ.i = i ∧ x.τ.an = an ∧ (∀ q, tb an q = true → Anc ops i q) ∧ ∀ a ∈ ts, tmPair a x.τ = true := fun x hx hd => by
   rw [hx]
   exact ⟨by rw [htm]; rfl, by rw [htm]; rfl, han' hd, fun a ha => allB_t (hchk hd).2 a ha⟩
  have hed : dr = true → ∀ o' e, ops[i]? = some o' → e ∈ o'.after → Region.binds .any e = true → e.on < i := fun hd o' e h1 h2 h3 => by
   rw [ho] at h1; cases h1
   have := allB_t (hchk hd).1 e (Array.mem_toList_iff.2 h2)
   rw [h3] at this
   exact ble_t this
  have hdo : dOps L (o :: r) D = dOps L r (DmOf L o.dst D) := by rw [dOps]; rfl
  rw [hdo]
  -- the end of each way
  have fin : ∀ (A1 : List Al) (r' : KG), cOps P TY tx nt N L dr ops.toList r A1 (i + 1) (appL done [an]) (tm :: ts) = some ⟨r'⟩ → Next P tx nt N L ops X0 i an tm A1 (DmOf L o.dst) c κ r' fr m γ X t →
   ∃ Xs ix fr' m' γ' A' tf, RunOk P tx nt N L ops X0 c.bs dr i ts t m γ X m' γ' Xs ix tf ∧ Pre tx nt N L ops X0 c.bs A' fr' m' γ' (Xs ops.size) ∧ NZ L fr' (dOps L r (DmOf L o.dst D)) ∧ κ fr' m' = true := fun A1 r' hc' hn => by
   obtain ⟨fr1, m1, γ1, X1, x, t1, hr, hst, hx, ht⟩ := hn
   have hxτ : (x.τ :: ts) = tm :: ts := by rw [hx]
   obtain ⟨Xs, ix, fr', m', γ', A', tf, k1, k2, k3, k4⟩ := cOps_ok hT hname hcall r (i + 1) A1 (appL done [an]) (tm :: ts) (DmOf L o.dst D) r' fr1 m1 γ1 X1 t1 hl' hin hc' hst.pre (hst.nz D hD) hr hdone'
   rw [← hxτ] at k1
   refine ⟨_, _, fr', m', γ', A', tf, RunOk.cons (o := o) (A := A) hst hin k1 ht (hτ x hx) hed, ?_, k3, k4⟩
   have e : (if ops.size = i then X else Xs ops.size) = Xs ops.size := if_neg (by omega)
   rw [e]; exact k2
  cases ha : alOp nt TY tx L ops.toList A o r with
  | some A1 =>
   rw [ha] at hc
   have hc : cOps P TY tx nt N L dr ops.toList r A1 (i + 1) (appL done [an]) (tm :: ts) = some ⟨f⟩ := hc
   obtain ⟨hld, X1, x, hst, hx, hxr⟩ := ali_step (P := P) (an := an) hT h ho ha
   refine fin A1 f hc ⟨fr, m, γ, X1, x, t, hrun, ?_, by rw [hx, htm], .inl ⟨rfl, hxr⟩⟩
   rw [DmOf_n hld]; exact hst
  | none =>
   rw [ha] at hc
   cases hq : loSt TY tx N L A o i with
   | none =>
    rw [hq] at hc
    obtain ⟨p, h1, hc⟩ := bnd_some (show bnd (cOpD P TY tx L A o) _ = some (BG.mk f) from hc)
    obtain ⟨g, h2, hc⟩ := bnd_some hc
    obtain ⟨d, h3, hc⟩ := bnd_some hc
    obtain ⟨bg, h4, hc⟩ := bnd_some hc
    rw [str_eq] at hc
    obtain ⟨r'⟩ := bg
    obtain ⟨s, nm, k⟩ := d
    have hc : sdG s nm k g r' (sdOp i an s nm k r' p.o) = some ⟨f⟩ := hc
    have := main_step (an := an) hT hname hcall h ho h1 h2 h3 hc hrun
    rw [← htm] at this
    exact fin _ r' h4 this
   | some q =>
    rw [hq] at hc
    obtain ⟨g, h2, hc⟩ := bnd_some (show bnd (cGd tx L A o.guard ops.toList o.guard) _ = some (BG.mk f) from hc)
    obtain ⟨bg, h4, hc⟩ := bnd_some hc
    obtain ⟨r'⟩ := bg
    obtain ⟨⟨s, nm, k⟩, qo, qb⟩ := q
    cases g with
    | some ow => cases hc
    | none =>
     have hc : some (BG.mk (sdLs s nm k qo r')) = some ⟨f⟩ := hc
     cases hc
     have hG : o.guard = none := cGd_say h.fok h.al h.ly h2
     obtain ⟨hd, hn⟩ := loc_step (P := P) (an := an) (q := ⟨⟨s, nm, k⟩, qo, qb⟩) hT h ho hG hq hrun
     rw [← htm] at hn
     have hDm : DmOf L o.dst = fun D => D := DmOf_n (by rw [hd]; rfl)
     refine fin _ r' h4 ?_
     rw [hDm]; exact hn
end
end Go.Proofs.YtehpobojopmilaaGreat.Ev
namespace Go.Proofs.YtehpobojopmilaaGreat.Ev
set_option linter.unusedVariables false
set_option linter.unusedSimpArgs false
open Go
set_option maxRecDepth 4000
theorem Rel.world {tx : Tx} {nt : Nat} {s : Sg} {X : Loc → Vl} {a : Act} {w w' : World} (h : Rel tx nt s X a w) (hw : w'.heap = w.heap) : Rel tx nt s X a w' := ⟨h.size, h.defers, h.tm, h.h.congr (fun _ => rfl) (fun _ _ => rfl) hw⟩
structure AtS (tx : Tx) (nt N : Nat) (L : T Ly) (X0 : Loc → Vl) (bs : Nat) (s0 : Sg) (w0 : World) (D : List Nat) (fr : Nat) (m : Me) (γ : Nat) (X : Loc → Vl) (s : Sg) (a : Act) (w : World) : Prop where
 fok : FrOk L N fr X
 hp : HpOk X0 bs m X
 nz : NZ L fr D
 rel : Rel tx nt s X a w
 fs : FreshS N m.nx γ s
 tr : Trs (fun i => bs ≤ i ∨ ∃ q ∈ m.lg, accI q = i) (fun i => bs ≤ i) s0 w0 s w
theorem AtS.sub {tx : Tx} {nt N : Nat} {L : T Ly} {X0 : Loc → Vl} {bs : Nat} {s0 : Sg} {w0 : World} {D D' : List Nat} {fr : Nat} {m : Me} {γ : Nat} {X : Loc → Vl} {s : Sg} {a : Act} {w : World} (h : AtS tx nt N L X0 bs s0 w0 D' fr m γ X s a w) (hD : ∀ d ∈ D, d ∈ D') : AtS tx nt N L X0 bs s0 w0 D fr m γ X s a w :=
 ⟨h.fok, h.hp, fun d hd => h.nz d (hD d hd), h.rel, h.fs, h.tr⟩
section
variable {P : Program} {TY : T TI} {tx : Tx} {nt N : Nat} {L : T Ly} {X0 : Loc → Vl} {s0 : Sg} {w0 : World}
theorem alD_ok {ops : Array Oper} {fr : Nat} {X : Loc → Vl} (hF : FrOk L N fr X) : ∀ {D : List Nat}, NZ L fr D → ∀ a ∈ alD L D, AliOk ops tx L fr X a
 | [], _, a, ha => by cases ha
 | d :: D, hD, a, ha => by
  obtain ⟨y, k, h1, h2, h3, h4⟩ := hD d List.mem_cons_self
  have e : alD L (d :: D) = ⟨d, some d, ⟨oK 0, .a y.p⟩, none⟩ :: alD L D := by
   show alNew L (some d) (alD L D) = _
   unfold alNew
   show @Option.rec Ly (fun _ => List Al) _ _ (L.get d) = _
   rw [h1]
   obtain ⟨yp, yh⟩ := y
   have h2 : yh = .b k := h2
   subst h2
   rfl
  rw [e] at ha
  rcases List.mem_cons.1 ha with rfl | ha
  ·
   obtain ⟨g, hg⟩ := hF.bx d y k h1 h2 h3 h4
   refine ⟨fun y' h => ?_, ⟨fun h => absurd rfl (h y.p), fun p hp => ?_⟩, fun _ => ⟨fun h => absurd rfl (h y.p), fun p hp => ?_⟩⟩
   · rw [h1] at h; cases h
     exact ⟨k, h2, rfl⟩
   · cases hp
     exact ⟨rfl, d, y, k, rfl, h1, h2, h3, Nat.le_refl _, h4⟩
   · cases hp
     exact ⟨d, y, g, rfl, h1, hg.tm, by rw [Nat.sub_self]; exact hg.tm⟩
  · exact alD_ok hF (fun t ht => hD t (List.mem_cons_of_mem _ ht)) a ha
theorem pairs_t {l : List Rec} (h : pairs l = true) {a b : Rec} (ha : a ∈ l) (hb : b ∈ l) : inert a = true ∨ pairOk a b = true := by
 have := allB_t h a ha
 cases e : inert a with
 | true => exact .inl rfl
 | false =>
  rw [e] at this
  exact .inr (allB_t (show allB (pairOk a) l = true from this) b hb)
theorem disj_nil : ∀ l : List Nat, disj l [] = true
 | [] => rfl
 | x :: l => by
  show iff' (disj1 x []) (disj l []) false = true
  rw [disj_nil l]
  rfl
theorem inert0 (k : Nat) : inert (rec0 k) = true := rfl
theorem region_ok (hT : ∀ t ti, TY.get t = some ti → tiOf P t = some ti) (hname : ∀ (f : FuncId) (fn : Func), P.funcs[f]? = some fn → (fn.name == "runtime.NumGoroutine") = false) (hmx : P.follows .mixedOrders = true) (hL : LyOk L N) (hN : 1 ≤ N) {dr : Bool} {c : Ct} {κ : KM} (hcall : CallsOk P tx TY c.call)
 {ops : Array Oper} {D : List Nat} {f : KG} (hc : cOps P TY tx nt N L dr ops.toList ops.toList (alD L D) 0 [] [] = some ⟨f⟩) {fr : Nat} {m : Me} {γ : Nat} {X : Loc → Vl} (hex : ∃ s0 w0 s a w, AtS tx nt N L X0 c.bs s0 w0 D fr m γ X s a w) (hrun : f c κ fr m [] = true) {id : Nat} :
 ∃ fr' m' γ' X', κ fr' m' = true ∧ ∀ s0 w0 s a w, AtS tx nt N L X0 c.bs s0 w0 D fr m γ X s a w → (Code.region id ops dr).wp P (fun e a' w' => e = .normal ∧ ∃ s', AtS tx nt N L X0 c.bs s0 w0 (dOps L ops.toList D) fr' m' γ' X' s' a' w') a w := by
 obtain ⟨t0, v0, t, b, v, h⟩ := hex
 have hpre : Pre tx nt N L ops X0 c.bs (alD L D) fr m γ X := ⟨hL, hN, h.fok, alD_ok h.fok h.nz, h.hp, ⟨t, b, v, h.rel, h.fs⟩⟩
 obtain ⟨Xs, ix, fr', m', γ', A', tf, k, k2, k3, k4⟩ := cOps_ok hT hname hcall ops.toList 0 _ [] [] D f fr m γ X [] rfl (Nat.zero_le _) hc hpre h.nz hrun (fun _ => ⟨rfl, fun k a hk => by simp at hk⟩)
 refine ⟨fr', m', γ', Xs ops.size, k4, fun s0 w0 s a w h => ?_⟩
 have hT' : ∀ Q, Trace (Rel tx nt) P ops Q Xs (fun q => (ix q).stp L N) := by
  refine fun Q => ⟨fun i hi => k.st i (Nat.zero_le _) hi Q, fun i hi l hl => k.out i (Nat.zero_le _) hi l hl, fun i j hi hj hne q hqi hqj => ?_⟩
  have key : ∀ i j, i < j → j < ops.size → (ix i).N q → (ix j).N q → False := fun i j hij hj hqi hqj => by
   obtain ⟨m1, m2⟩ := k.mo i j (Nat.zero_le _) hij hj
   obtain ⟨o1, _⟩ := k.ok i (Nat.zero_le _) (by omega)
   obtain ⟨o2, _⟩ := k.ok j (Nat.zero_le _) hj
   have := o1.hi
   have := o2.hi
   have := o1.gh
   have := o2.gh
   rcases hqi with ⟨a1, a2⟩ | ⟨a1, a2⟩ <;> rcases hqj with ⟨b1, b2⟩ | ⟨b1, b2⟩
   · have := m1.1 (by omega) (by omega); omega
   · omega
   · omega
   · have := m2 (by omega) (by omega); omega
  rcases Nat.lt_or_gt_of_ne hne with hlt | hlt
  · exact key i j hlt hj hqi hqj
  · exact key j i hlt hi hqj hqi
 have hhi := k2.hi
 have hfr : ∀ i, i < ops.size → ∀ q, (ix i).N q → s q = none := fun i hi q hq => by
  obtain ⟨r1, r2⟩ := k.rg i (Nat.zero_le _) hi
  rcases hq with ⟨a1, a2⟩ | ⟨a1, a2⟩
  · obtain ⟨g1, g2⟩ := r1 (by omega)
    exact h.fs.1 q (by omega) (by unfold GH; omega)
  · obtain ⟨g1, g2⟩ := r2 (by omega)
    exact h.fs.2 q (by omega)
 have hbs := h.hp.b
 have hbg : c.bs ≤ GH := by have := hpre.hi; unfold GH; omega
 have hmul : γ * N ≤ γ' * N := Nat.mul_le_mul_right _ k.gl
 have hnx := k.nx
 have fin : ∀ (w1 : World), w1.heap = w.heap → w1.os = w.os → w1.tape = w.tape → w1.output = w.output → ∀ s' a' w', Trs (fun q => ∃ i, i < ops.size ∧ (ix i).L q) (fun q => ∃ i, i < ops.size ∧ (ix i).N q) s w1 s' w' → Rel tx nt s' (Xs ops.size) a' w' → Exit.normal = .normal ∧ ∃ s', AtS tx nt N L X0 c.bs s0 w0 (dOps L ops.toList D) fr' m' γ' (Xs ops.size) s' a' w' := fun w1 e1 e2 e3 e4 s' a' w' ht hr => by
  refine ⟨rfl, s', ⟨k2.fok, k2.hp, k3, hr, ⟨fun i h1 h2 => ?_, fun i h1 => ?_⟩, ?_⟩⟩
  ·
   cases e : s' i with
   | none => rfl
   | some x =>
    rcases ht.dom i x e with g | ⟨_, j, hj, g⟩
    · rw [h.fs.1 i (by omega) h2] at g; cases g
    · obtain ⟨r1, r2⟩ := k.rg j (Nat.zero_le _) hj
      rcases g with ⟨a1, a2⟩ | ⟨a1, a2⟩
      · have := (r1 (by omega)).2; omega
      · have := (r2 (by omega)).1; omega
  ·
   cases e : s' i with
   | none => rfl
   | some x =>
    rcases ht.dom i x e with g | ⟨_, j, hj, g⟩
    · rw [h.fs.2 i (by omega)] at g; cases g
    · obtain ⟨r1, r2⟩ := k.rg j (Nat.zero_le _) hj
      rcases g with ⟨a1, a2⟩ | ⟨a1, a2⟩
      · have := (r1 (by omega)).2
        have : m'.nx ≤ GH := by unfold GH; omega
        omega
      · have := (r2 (by omega)).2; omega
  ·
   have hd : Trs (fun _ => False) (fun _ => False) s w s w1 := ⟨s.le_refl, fun _ _ h => .inl h, fun i b c h h0 => (by rw [h0] at h; cases h), e2, e3, e4, by rw [e1]; exact Nat.le_refl _, fun b _ _ => by rw [e1]⟩
   refine (h.tr.trans (hd.trans ht (L2 := fun q => ∃ i, i < ops.size ∧ (ix i).L q) (N2 := fun q => ∃ i, i < ops.size ∧ (ix i).N q) (fun i h => h.resolve_left fun h : False => h) fun i h => h.resolve_left fun h : False => h) (fun i hi => ?_) fun i hi => ?_)
   · rcases hi with (hi | ⟨q, hq, e⟩) | ⟨j, hj, hi | ⟨q, hq, e⟩⟩
     · exact .inl hi
     · exact .inr ⟨q, k.lg q hq, e⟩
     · exact .inl (by omega)
     · rcases k.lw j (Nat.zero_le _) hj q hq with g | ⟨q', g, g'⟩
       · exact .inl (by rw [← e]; exact g)
       · exact .inr ⟨q', g, by rw [g', e]⟩
   · rcases hi with hi | ⟨j, hj, hi⟩
     · exact hi
     · obtain ⟨r1, r2⟩ := k.rg j (Nat.zero_le _) hj
       rcases hi with ⟨a1, a2⟩ | ⟨a1, a2⟩
       · have := (r1 (by omega)).1; show c.bs ≤ i; omega
       · have := (r2 (by omega)).1; show c.bs ≤ i; omega
 cases dr with
 | false =>
  refine wp_region_trace_text (Rel tx nt) (hT' _) (s := s) (by rw [k.x0]; exact h.rel) hfr (fin w rfl rfl rfl rfl)
 | true =>
  have hO : Ordered ops (fun q => (ix q).stp L N) := by
   refine ordered_ix (fun q hq => (k.ok q (Nat.zero_le _) hq).1) (fun q hq => (k.ok q (Nat.zero_le _) hq).2) (fun i j hij hj => ?_) (fun i j hij hj => ?_) (fun i j hij hj => (k.mo i j (Nat.zero_le _) hij hj).1) fun i j hij hj => (k.mo i j (Nat.zero_le _) hij hj).2
   · rcases tmPair_t (k.tp rfl i j (Nat.zero_le _) hij hj) with g | g
     · left
       obtain ⟨_, g2, g3⟩ := k.tm rfl j (Nat.zero_le _) hj
       obtain ⟨_, g4, _⟩ := k.tm rfl i (Nat.zero_le _) (by omega)
       rw [g4] at g
       exact g3 i g
     · exact .inr g
   ·
    have hE : Earlier ops := fun q o e h1 h2 h3 => k.ed rfl q (Nat.zero_le _) (Array.getElem?_eq_some_iff.1 h1).1 o e h1 h2 h3
    have ri := (k.ok i (Nat.zero_le _) (by omega)).2
    have rj := (k.ok j (Nat.zero_le _) hj).2
    have key : ∀ (p q : Nat), p < ops.size → q < ops.size → ((p = i ∧ q = j) ∨ (p = j ∧ q = i)) → Anc ops j i ∨ PrF (ix p).r (ix q).r := fun p q hp hq hpq => by
     rcases k.tr.2.2 p (Nat.zero_le _) hp with e | ⟨e, ea⟩
     · exact .inr (.inl (by rw [e]; exact inert0 p))
     ·
      rcases k.tr.2.2 q (Nat.zero_le _) hq with e' | ⟨e', ea'⟩
      · refine .inr ?_
        by_cases hin : inert (ix p).r = true
        · exact .inl hin
        · right
          rw [e']
          show iff' (disj (ix p).r.wr []) (noAl (ix p).r.a0 (ix p).r.a1 []) false = true
          rw [disj_nil]
          rfl
      ·
       rcases pairs_t (k.tr.1 rfl) e e' with g | g
       · exact .inr (.inl g)
       ·
        have rp := (k.ok p (Nat.zero_le _) hp).2
        have rq := (k.ok q (Nat.zero_le _) hq).2
        unfold pairOk at g
        rw [rp, rq] at g
        have hne : Nat.beq p q = false := by
         cases hb : Nat.beq p q with
         | false => rfl
         | true => have := beq_t hb; omega
        rw [hne] at g
        have g : iff' (tb (ix q).r.an p) true (iff' (tb (ix p).r.an q) true (free (ix p).r (ix q).r)) = true := g
        cases h1 : tb (ix q).r.an p with
        | true =>
         have := ea' rfl p h1
         rcases hpq with ⟨rfl, rfl⟩ | ⟨rfl, rfl⟩
         · exact .inl this
         · have := this.lt hE; omega
        | false =>
         rw [h1] at g
         have g : iff' (tb (ix p).r.an q) true (free (ix p).r (ix q).r) = true := g
         cases h2 : tb (ix p).r.an q with
         | true =>
          have := ea rfl q h2
          rcases hpq with ⟨rfl, rfl⟩ | ⟨rfl, rfl⟩
          · have := this.lt hE; omega
          · exact .inl this
         | false => rw [h2] at g; exact .inr (.inr g)
    rcases key i j (by omega) hj (.inl ⟨rfl, rfl⟩) with g1 | g1
    · exact .inl g1
    · rcases key j i hj (by omega) (.inr ⟨rfl, rfl⟩) with g2 | g2
      · exact .inl g2
      · exact .inr ⟨g1, g2⟩
  have hE : Earlier ops := fun q o e h1 h2 h3 => k.ed rfl q (Nat.zero_le _) (Array.getElem?_eq_some_iff.1 h1).1 o e h1 h2 h3
  refine wp_region_trace (Rel tx nt) hmx (hT' _) hO hE (s := s) (by rw [k.x0]; exact h.rel.world rfl) hfr (fin _ rfl rfl rfl rfl)
end
end Go.Proofs.YtehpobojopmilaaGreat.Ev
namespace Go.Proofs.YtehpobojopmilaaGreat.Ev
set_option linter.unusedVariables false
set_option linter.unusedSimpArgs false
open Go
set_option maxRecDepth 4000
section
variable {P : Program} {TY : T TI} {tx : Tx} {nt N : Nat} {L : T Ly} {X0 : Loc → Vl}
theorem dOps_sub : ∀ (l : List Oper) (D : List Nat), ∀ d ∈ D, d ∈ dOps L l D
 | [], D, d, h => h
 | o :: r, D, d, h => by
  rw [dOps]
  refine dOps_sub r _ d ?_
  cases isLd L o.dst with
  | false => exact h
  | true =>
   cases o.dst with
   | none => exact h
   | some q => exact List.mem_cons_of_mem _ h
theorem dC_sub : ∀ (c : Code) (D : List Nat), ∀ d ∈ D, d ∈ dC L c D := by
 intro c
 induction c with
 | seq a b iha ihb => intro D d h; rw [dC]; exact ihb _ d (iha _ d h)
 | region i ops dr => intro D d h; rw [dC]; exact dOps_sub _ _ d h
 | _ => intro D d h; unfold dC; exact h
theorem bbc_some {α : Type} {x : Option BC} {f : KC → Option α} {y : α} (h : bbc x f = some y) : ∃ k, x = some ⟨k⟩ ∧ f k = some y := by
 cases x with
 | none => cases h
 | some x => obtain ⟨k⟩ := x; exact ⟨k, rfl, h⟩
theorem wp_ex {c : Code} {Q : Exit → Act → World → Prop} {a : Act} {w : World} (h : c.wp P Q a w) : ∃ e a' w', Q e a' w' := by
 obtain ⟨e, a', w', h1, _⟩ := h default [] []
 exact ⟨e, a', w', h1⟩
def goesOn (k : Kt) (fr : Nat) (m : Me) : Exit → Prop
 | .normal => k.n fr m = true
 | .ret => k.r fr m = true
 | .exit j => k.x j fr m = true
 | _ => False
noncomputable def dEnd (L : T Ly) (code : Code) (D : List Nat) : Exit → List Nat
 | .normal => dC L code D
 | .exit _ => D
 | _ => []
def CodeOk (P : Program) (tx : Tx) (nt N : Nat) (L : T Ly) (X0 : Loc → Vl) (bs : Nat) (code : Code) (D : List Nat) (k : Kt) (fr : Nat) (m : Me) (γ : Nat) (X : Loc → Vl) : Prop :=
 ∃ e fr' m' γ' X', goesOn k fr' m' e ∧ ∀ s0 w0 s a w, AtS tx nt N L X0 bs s0 w0 D fr m γ X s a w → code.wp P (fun e' a' w' => e' = e ∧ ∃ s', AtS tx nt N L X0 bs s0 w0 (dEnd L code D e) fr' m' γ' X' s' a' w') a w
def Met (tx : Tx) (nt N : Nat) (L : T Ly) (X0 : Loc → Vl) (bs : Nat) (D : List Nat) (fr : Nat) (m : Me) (γ : Nat) (X : Loc → Vl) : Prop := ∃ s0 w0 s a w, AtS tx nt N L X0 bs s0 w0 D fr m γ X s a w
theorem cC_ok (hT : ∀ t ti, TY.get t = some ti → tiOf P t = some ti) (hname : ∀ (f : FuncId) (fn : Func), P.funcs[f]? = some fn → (fn.name == "runtime.NumGoroutine") = false) (hmx : P.follows .mixedOrders = true) (hL : LyOk L N) (hN : 1 ≤ N) {c : Ct} (hcall : CallsOk P tx TY c.call) :
 ∀ (code : Code) (D : List Nat) (f : KC), cC P TY tx nt N L D code = some ⟨f⟩ → ∀ (k : Kt) (fr : Nat) (m : Me) (γ : Nat) (X : Loc → Vl), f c k fr m = true → Met tx nt N L X0 c.bs D fr m γ X → CodeOk P tx nt N L X0 c.bs code D k fr m γ X := by
 intro code
 induction code with
 | skip =>
  intro D f hc k fr m γ X hrun hm
  cases hc
  exact ⟨.normal, fr, m, γ, X, hrun, fun s0 w0 s a w h => wp_skip ⟨rfl, s, h⟩⟩
 | ret =>
  intro D f hc k fr m γ X hrun hm
  cases hc
  exact ⟨.ret, fr, m, γ, X, hrun, fun s0 w0 s a w h => wp_ret ⟨rfl, s, h.sub fun d hd => by cases hd⟩⟩
 | exit i =>
  intro D f hc k fr m γ X hrun hm
  cases hc
  exact ⟨.exit i, fr, m, γ, X, hrun, fun s0 w0 s a w h => wp_exit ⟨rfl, s, h⟩⟩
 | seq x y ihx ihy =>
  intro D f hc k fr m γ X hrun hm
  rw [cC] at hc
  obtain ⟨fx, h1, hc⟩ := bbc_some hc
  obtain ⟨fy, h2, hc⟩ := bbc_some hc
  cases hc
  have hrun : fx c ⟨fy c k, k.r, k.x⟩ fr m = true := hrun
  obtain ⟨e, fr1, m1, γ1, X1, h3, h4⟩ := ihx D fx h1 ⟨fy c k, k.r, k.x⟩ fr m γ X hrun hm
  obtain ⟨t0, v0, t, b, v, hmm⟩ := hm
  obtain ⟨e', b1, v1, rfl, t1, h5⟩ := wp_ex (h4 t0 v0 t b v hmm)
  cases e' with
  | normal =>
   obtain ⟨e2, fr2, m2, γ2, X2, h6, h7⟩ := ihy (dC L x D) fy h2 k fr1 m1 γ1 X1 h3 ⟨_, _, _, _, _, h5⟩
   refine ⟨e2, fr2, m2, γ2, X2, h6, fun s0 w0 s a w h => wp_seq (wp_mono (h4 s0 w0 s a w h) fun e' a' w' hh => ?_)⟩
   obtain ⟨rfl, s', hs'⟩ := hh
   refine wp_mono (h7 s0 w0 s' a' w' hs') fun e3 a3 w3 hh => ?_
   obtain ⟨rfl, s3, hs3⟩ := hh
   refine ⟨rfl, s3, ?_⟩
   cases e3 with
   | normal => exact hs3
   | exit j => exact hs3.sub (dC_sub x D)
   | _ => exact hs3
  | exit j =>
   refine ⟨.exit j, fr1, m1, γ1, X1, h3, fun s0 w0 s a w h => wp_seq (wp_mono (h4 s0 w0 s a w h) fun e' a' w' hh => ?_)⟩
   obtain ⟨rfl, s', hs'⟩ := hh
   exact ⟨rfl, s', hs'⟩
  | ret =>
   refine ⟨.ret, fr1, m1, γ1, X1, h3, fun s0 w0 s a w h => wp_seq (wp_mono (h4 s0 w0 s a w h) fun e' a' w' hh => ?_)⟩
   obtain ⟨rfl, s', hs'⟩ := hh
   exact ⟨rfl, s', hs'⟩
  | _ => exact h3.elim
 | cond x y z ihy ihz =>
  intro D f hc k fr m γ X hrun hm
  rw [cC] at hc
  obtain ⟨o, h0, hc⟩ := boc_some hc
  obtain ⟨fy, h1, hc⟩ := bbc_some hc
  obtain ⟨fz, h2, hc⟩ := bbc_some hc
  cases hc
  have hrun : iff' (Nat.beq (o fr) 10) (fy c k fr m) (iff' (Nat.beq (o fr) 2) (fz c k fr m) false) = true := hrun
  have hval : ∀ s0 w0 s a w, AtS tx nt N L X0 c.bs s0 w0 D fr m γ X s a w → Cl tx s .c (o fr) (a.eval x) := fun s0 w0 s a w h => by
   have hop := cOd_opd (ops := #[]) (A := []) h.fok (fun a ha => by cases ha) hL (G := none) (fun j x e => by cases e) h0
   exact opd_cl h.rel (fun _ _ => rfl) hop
  have hend : ∀ (q : Code) (e : Exit), (∀ d ∈ dEnd L (.cond x y z) D e, d ∈ dEnd L q D e) := fun q e => by
   cases e with
   | normal => exact dC_sub q D
   | _ => exact fun d hd => hd
  cases hb : Nat.beq (o fr) 10 with
  | true =>
   rw [hb] at hrun
   have hb := beq_t hb
   obtain ⟨e, fr1, m1, γ1, X1, h3, h4⟩ := ihy D fy h1 k fr m γ X hrun hm
   refine ⟨e, fr1, m1, γ1, X1, h3, fun s0 w0 s a w h => ?_⟩
   obtain ⟨b, e1, e2⟩ := ((hval s0 w0 s a w h).rc (by rw [hb]; omega)).t2 (by rw [hb])
   have : b = true := by cases b with
    | true => rfl
    | false => rw [hb] at e2; cases e2
   subst this
   refine wp_cond_true e1 (wp_mono (h4 s0 w0 s a w h) fun e3 a3 w3 hh => ?_)
   obtain ⟨rfl, s3, hs3⟩ := hh
   exact ⟨rfl, s3, hs3.sub (hend y e3)⟩
  | false =>
   rw [hb] at hrun
   obtain ⟨hb2, hrun⟩ := iff_tt (show iff' (Nat.beq (o fr) 2) (fz c k fr m) false = true from hrun)
   have hb2 := beq_t hb2
   obtain ⟨e, fr1, m1, γ1, X1, h3, h4⟩ := ihz D fz h2 k fr m γ X hrun hm
   refine ⟨e, fr1, m1, γ1, X1, h3, fun s0 w0 s a w h => ?_⟩
   obtain ⟨b, e1, e2⟩ := ((hval s0 w0 s a w h).rc (by rw [hb2]; omega)).t2 (by rw [hb2])
   have : b = false := by cases b with
    | false => rfl
    | true => rw [hb2] at e2; cases e2
   subst this
   refine wp_cond_false e1 (wp_mono (h4 s0 w0 s a w h) fun e3 a3 w3 hh => ?_)
   obtain ⟨rfl, s3, hs3⟩ := hh
   exact ⟨rfl, s3, hs3.sub (hend z e3)⟩
 | block i x ih =>
  intro D f hc k fr m γ X hrun hm
  rw [cC] at hc
  obtain ⟨fx, h1, hc⟩ := bbc_some hc
  cases hc
  have hrun : fx c ⟨k.n, k.r, fun j fr m => iff' (Nat.beq j i) (k.n fr m) (k.x j fr m)⟩ fr m = true := hrun
  obtain ⟨e, fr1, m1, γ1, X1, h3, h4⟩ := ih D fx h1 _ fr m γ X hrun hm
  cases e with
  | normal =>
   refine ⟨.normal, fr1, m1, γ1, X1, h3, fun s0 w0 s a w h => wp_block (wp_mono (h4 s0 w0 s a w h) fun e3 a3 w3 hh => ?_)⟩
   obtain ⟨rfl, s3, hs3⟩ := hh
   exact ⟨rfl, s3, hs3.sub (dC_sub x D)⟩
  | ret =>
   refine ⟨.ret, fr1, m1, γ1, X1, h3, fun s0 w0 s a w h => wp_block (wp_mono (h4 s0 w0 s a w h) fun e3 a3 w3 hh => ?_)⟩
   obtain ⟨rfl, s3, hs3⟩ := hh
   exact ⟨rfl, s3, hs3⟩
  | exit j =>
   have h3 : iff' (Nat.beq j i) (k.n fr1 m1) (k.x j fr1 m1) = true := h3
   cases hb : Nat.beq j i with
   | true =>
    rw [hb] at h3
    refine ⟨.normal, fr1, m1, γ1, X1, h3, fun s0 w0 s a w h => wp_block (wp_mono (h4 s0 w0 s a w h) fun e3 a3 w3 hh => ?_)⟩
    obtain ⟨rfl, s3, hs3⟩ := hh
    show if j = i then _ else _
    rw [if_pos (beq_t hb)]
    exact ⟨rfl, s3, hs3⟩
   | false =>
    rw [hb] at h3
    refine ⟨.exit j, fr1, m1, γ1, X1, h3, fun s0 w0 s a w h => wp_block (wp_mono (h4 s0 w0 s a w h) fun e3 a3 w3 hh => ?_)⟩
    obtain ⟨rfl, s3, hs3⟩ := hh
    show if j = i then _ else _
    rw [if_neg (fun e => by rw [e, Nat.beq_refl] at hb; cases hb)]
    exact ⟨rfl, s3, hs3⟩
  | _ => exact h3.elim
 | loop x ih =>
  intro D f hc k fr m γ X hrun hm
  rw [cC] at hc
  obtain ⟨fx, h1, hc⟩ := bbc_some hc
  cases hc
  have hrun : Nat.rec (motive := fun _ => KM) (fun _ _ => false) (fun _ ih fr m => fx c ⟨ih, k.r, k.x⟩ fr m) c.n fr m = true := hrun
  have key : ∀ (n : Nat) (fr : Nat) (m : Me) (γ : Nat) (X : Loc → Vl), Nat.rec (motive := fun _ => KM) (fun _ _ => false) (fun _ ih fr m => fx c ⟨ih, k.r, k.x⟩ fr m) n fr m = true → Met tx nt N L X0 c.bs D fr m γ X →
   ∃ e fr' m' γ' X', goesOn k fr' m' e ∧ e ≠ .normal ∧ ∀ s0 w0 s a w, AtS tx nt N L X0 c.bs s0 w0 D fr m γ X s a w → Code.rounds P x (fun e' a' w' => e' = e ∧ ∃ s', AtS tx nt N L X0 c.bs s0 w0 (dEnd L (.loop x) D e) fr' m' γ' X' s' a' w') n a w := by
   intro n
   induction n with
   | zero => intro fr m γ X h; cases h
   | succ n ihn =>
    intro fr m γ X hrun hm
    obtain ⟨e, fr1, m1, γ1, X1, h3, h4⟩ := ih D fx h1 ⟨Nat.rec (motive := fun _ => KM) (fun _ _ => false) (fun _ ih fr m => fx c ⟨ih, k.r, k.x⟩ fr m) n, k.r, k.x⟩ fr m γ X hrun hm
    obtain ⟨t0, v0, t, b, v, hmm⟩ := hm
    obtain ⟨e', b1, v1, rfl, t1, h5⟩ := wp_ex (h4 t0 v0 t b v hmm)
    cases e' with
    | normal =>
     obtain ⟨e2, fr2, m2, γ2, X2, h6, h7, h8⟩ := ihn fr1 m1 γ1 X1 h3 ⟨_, _, _, _, _, h5.sub (dC_sub x D)⟩
     refine ⟨e2, fr2, m2, γ2, X2, h6, h7, fun s0 w0 s a w h => ?_⟩
     rw [rounds_succ]
     refine wp_mono (h4 s0 w0 s a w h) fun e' a' w' hh => ?_
     obtain ⟨rfl, s', hs'⟩ := hh
     exact h8 s0 w0 s' a' w' (hs'.sub (dC_sub x D))
    | exit j =>
     refine ⟨.exit j, fr1, m1, γ1, X1, h3, (fun e => by cases e), fun s0 w0 s a w h => ?_⟩
     rw [rounds_succ]
     refine wp_mono (h4 s0 w0 s a w h) fun e' a' w' hh => ?_
     obtain ⟨rfl, s', hs'⟩ := hh
     exact ⟨rfl, s', hs'⟩
    | ret =>
     refine ⟨.ret, fr1, m1, γ1, X1, h3, (fun e => by cases e), fun s0 w0 s a w h => ?_⟩
     rw [rounds_succ]
     refine wp_mono (h4 s0 w0 s a w h) fun e' a' w' hh => ?_
     obtain ⟨rfl, s', hs'⟩ := hh
     exact ⟨rfl, s', hs'⟩
    | _ => exact h3.elim
  obtain ⟨e, fr', m', γ', X', h3, _, h4⟩ := key c.n fr m γ X hrun hm
  exact ⟨e, fr', m', γ', X', h3, fun s0 w0 s a w h => wp_loop_rounds c.n (h4 s0 w0 s a w h)⟩
 | region i ops dr =>
  intro D f hc k fr m γ X hrun hm
  rw [cC] at hc
  cases h1 : cOps P TY tx nt N L dr ops.toList ops.toList (alD L D) 0 [] [] with
  | none => rw [h1] at hc; cases hc
  | some bg =>
   obtain ⟨g⟩ := bg
   rw [h1] at hc
   have hc : some (BC.mk (pcReg g)) = some ⟨f⟩ := hc
   cases hc
   obtain ⟨fr', m', γ', X', h3, h4⟩ := region_ok (X0 := X0) hT hname hmx hL hN hcall h1 hm hrun (id := i)
   exact ⟨.normal, fr', m', γ', X', h3, fun s0 w0 s a w h => h4 s0 w0 s a w h⟩
 | _ =>
  intro D f hc
  cases hc
end
end Go.Proofs.YtehpobojopmilaaGreat.Ev
namespace Go.Proofs.YtehpobojopmilaaGreat.Ev
set_option linter.unusedVariables false
set_option linter.unusedSimpArgs false
open Go
set_option maxRecDepth 4000
noncomputable def XE (L : T Ly) (h : HT) (a : Nat) : Loc → Vl
 | .tm t => match L.get t with
  | some y => (match y.h with | .b _ => .no | hs => .v hs (spn a (72 * y.p) (mk hs.sz)))
  | none => .no
 | .mt id => match T.get h id with | some bk => .mt bk.n bk.ty bk.es bk.ex | none => .no
 | .cl id k => match T.get h id with | some bk => .c (cel bk.c k) | none => .no
section
variable {P : Program} {TY : T TI} {tx : Tx} {nt N : Nat} {L : T Ly}
def sumTs : List TI → Nat
 | [] => 0
 | t :: ts => t.sz + sumTs ts
theorem parOk_cons {t : TypeId} {ps : List TypeId} {k p : Nat} (h : parOk TY L (t :: ps) k p = true) : ∃ ti y, TY.get t = some ti ∧ L.get k = some y ∧ y.p = p ∧ y.h = shOf ti ∧ parOk TY L ps (k + 1) (p + ti.sz) = true := by
 rw [parOk] at h
 cases h1 : TY.get t with
 | none => rw [h1] at h; cases h
 | some ti =>
  rw [h1] at h
  cases h2 : L.get k with
  | none => rw [h2] at h; cases h
  | some y =>
   rw [h2] at h
   obtain ⟨h3, h⟩ := iff_tt (show iff' (Nat.beq y.p p) (iff' (shEq y.h (shOf ti)) (parOk TY L ps (k + 1) (p + ti.sz)) false) false = true from h)
   obtain ⟨h4, h⟩ := iff_tt h
   exact ⟨ti, y, rfl, rfl, beq_t h3, shEq_eq h4, h⟩
theorem par_tile (hT : ∀ t ti, TY.get t = some ti → tiOf P t = some ti) {y : Ly} (hy1 : 1 ≤ y.h.sz) : ∀ (ps : List TypeId) (ts : List TI) (k p : Nat), parOk TY L ps k p = true → cTys TY ps = some ts → p ≤ y.p → (∀ t', k ≤ t' → t' < k + ps.length → ∀ y', L.get t' = some y' → y.p + y.h.sz ≤ y'.p ∨ y'.p + y'.h.sz ≤ y.p) → p + sumTs ts ≤ y.p
 | [], ts, k, p, h, hc, hp, _ => by
  rw [cTys] at hc; cases hc
  exact hp
 | t :: ps, ts, k, p, h, hc, hp, ha => by
  obtain ⟨ti, yk, h1, h2, h3, h4, h5⟩ := parOk_cons h
  rw [cTys] at hc
  obtain ⟨ti', h6, hc⟩ := bnd_some hc
  obtain ⟨ts', h7, hc⟩ := bnd_some hc
  cases hc
  rw [h1] at h6; cases h6
  have hs : yk.h.sz = ti.sz := by rw [h4]; exact shOf_sz hT h1
  have hk := ha k (Nat.le_refl _) (by simp) yk h2
  have := par_tile hT hy1 ps ts' (k + 1) (p + ti.sz) h5 h7 (by
    rcases Nat.eq_zero_or_pos ti.sz with h0 | h0
    · omega
    · rcases hk with g | g <;> omega) fun t' g1 g2 => ha t' (by omega) (by simp; omega)
  show p + (ti.sz + sumTs ts') ≤ y.p
  omega
theorem par_at {s : Sg} {a : Nat} : ∀ (ps : List TypeId) (ts : List TI) (k p : Nat) (vs : List Value), parOk TY L ps k p = true → cTys TY ps = some ts → ArgsAre tx s ts p a vs → (∀ t ∈ ts, (shOf t).sz = t.sz) →
 vs.length = ps.length ∧ a < 2 ^ (72 * (p + sumTs ts)) ∧ ∀ j, j < ps.length → ∃ y v, L.get (k + j) = some y ∧ (∀ b, y.h ≠ .b b) ∧ vs[j]? = some v ∧ Cl tx s y.h (spn a (72 * y.p) (mk y.h.sz)) v
 | [], ts, k, p, vs, h, hc, hA, _ => by
  rw [cTys] at hc; cases hc
  obtain ⟨rfl, h1⟩ := hA
  exact ⟨rfl, h1, fun j hj => by cases hj⟩
 | t :: ps, ts, k, p, vs, h, hc, hA, hz => by
  obtain ⟨ti, yk, h1, h2, h3, h4, h5⟩ := parOk_cons h
  rw [cTys] at hc
  obtain ⟨ti', h6, hc⟩ := bnd_some hc
  obtain ⟨ts', h7, hc⟩ := bnd_some hc
  cases hc
  rw [h1] at h6; cases h6
  obtain ⟨v, vs', rfl, h8, h9⟩ := hA
  obtain ⟨g1, g2, g3⟩ := par_at ps ts' (k + 1) (p + ti.sz) vs' h5 h7 h9 fun t ht => hz t (List.mem_cons_of_mem _ ht)
  refine ⟨by simp [g1], ?_, fun j hj => ?_⟩
  · show a < 2 ^ (72 * (p + (ti.sz + sumTs ts')))
    rw [← Nat.add_assoc]; exact g2
  ·
   cases j with
   | zero =>
    refine ⟨yk, v, h2, fun b e => ?_, rfl, ?_⟩
    · rw [h4] at e
      unfold shOf at e
      split at e <;> cases e
    · rw [h3, h4, hz ti List.mem_cons_self]; exact h8
   | succ j =>
    obtain ⟨y, v', k1, k2, k3, k4⟩ := g3 j (by simpa using hj)
    exact ⟨y, v', by rw [show k + (j + 1) = k + 1 + j by omega]; exact k1, k2, k3, k4⟩
theorem XE_heap {h : HT} {a nx : Nat} {X : Loc → Vl} (hH : HeapIs X h nx) : HeapIs (XE L h a) h nx := by
 refine ⟨fun id bk e => ?_, fun id hid e => ?_, hH.nx⟩
 ·
  obtain ⟨g1, g2⟩ := hH.at_ id bk e
  refine ⟨g1, ?_, fun i hi => ?_, g2.n, g2.lt⟩
  · show (match T.get h id with | some bk => Vl.mt bk.n bk.ty bk.es bk.ex | none => .no) = _
    rw [e]
  · show (match T.get h id with | some bk => Vl.c (cel bk.c i) | none => .no) = _
    rw [e]
 · show (match T.get h id with | some bk => Vl.mt bk.n bk.ty bk.es bk.ex | none => .no) = _
   rw [e]
theorem XE_pl {h : HT} {a t : Nat} {y : Ly} (hy : L.get t = some y) (hb : ∀ k, y.h ≠ .b k) : XE L h a (.tm t) = .v y.h (spn a (72 * y.p) (mk y.h.sz)) := by
 show (match L.get t with | some y => (match y.h with | .b _ => Vl.no | hs => .v hs (spn a (72 * y.p) (mk hs.sz))) | none => .no) = _
 rw [hy]
 show (match y.h with | .b _ => Vl.no | hs => .v hs (spn a (72 * y.p) (mk hs.sz))) = _
 split
 · rename_i k e; exact absurd e (hb k)
 · rfl
theorem entry_ok (hT : ∀ t ti, TY.get t = some ti → tiOf P t = some ti) (hL : LyOk L N) {ps : List TypeId} {ts : List TI} {a : Nat} {m : Me} (hlg : m.lg = []) (hpar : parOk TY L ps 0 1 = true) (hts : cTys TY ps = some ts) (hnt : ps.length ≤ nt) {s : Sg} {X : Loc → Vl} {w : World} {args : Array Value} (hH : HeapIs X m.h m.nx) (hR : RelH tx s X w) (hs : ∀ i, m.nx ≤ i → s i = none) (hA : ArgsAre tx s ts 1 a args.toList) :
 AtS tx nt N L (XE L m.h a) m.nx s w [] a m 0 (XE L m.h a) s { tmps := args ++ Array.replicate (nt - args.size) undef, defers := [] } w := by
 obtain ⟨g1, g2, g3⟩ := par_at ps ts 0 1 args.toList hpar hts hA (cTys_sz hT _ _ hts)
 have hsz : args.size = ps.length := by simpa using g1
 have hE := XE_heap (L := L) (a := a) hH
 have hnx := hH.nx
 have hgh : m.nx ≤ GH := by unfold GH; omega
 -- places that are no parameter's hold nothing
 have hzero : ∀ t y, L.get t = some y → ps.length ≤ t → 1 ≤ y.h.sz → 1 + sumTs ts ≤ y.p := fun t y hy ht h1 =>
  par_tile hT h1 ps ts 0 1 hpar hts (hL.le t y hy).1 fun t' _ h2 y' hy' => hL.ap t y t' y' hy hy' (by omega)
 have hcel0 : ∀ t y, L.get t = some y → ps.length ≤ t → ∀ i, i < y.h.sz → cel a (y.p + i) = 0 := fun t y hy ht i hi => cel_high g2 (by have := hzero t y hy ht (by omega); omega)
 refine ⟨⟨fun t y h1 h2 => XE_pl h1 h2, fun d y k h1 h2 h3 h4 => ?_⟩, ⟨hE, Nat.le_refl _, fun q hq => (by rw [hlg] at hq; cases hq), fun id _ => .inl rfl, fun id k _ => .inl rfl⟩, fun d hd => (by cases hd), ⟨by simp [hsz]; omega, rfl, fun t => ?_, ⟨fun id n ty es ex hx => ?_, fun i j b k k' hi hj hsi hsj => ?_, hR.lt⟩⟩, ⟨fun i h _ => hs i h, fun i h => hs i (Nat.le_trans hgh (Nat.le_trans (Nat.le_add_right _ _) h))⟩, Trs.refl _ _ _ _⟩
 ·
  exfalso
  by_cases hd : d < ps.length
  · obtain ⟨y', v, k1, k2, _⟩ := g3 d hd
    rw [Nat.zero_add, h1] at k1
    cases k1
    exact k2 k h2
  · have := hcel0 d y h1 (by omega) 0 (by rw [h2]; exact h3)
    rw [Nat.add_zero] at this
    rw [this] at h4; exact h4 rfl
 ·
  show TmIs tx s (XE L m.h a (.tm t)) ((args ++ Array.replicate (nt - args.size) undef).getD t undef)
  cases hy : L.get t with
  | none =>
   have : XE L m.h a (.tm t) = .no := by
    show (match L.get t with | some y => (match y.h with | .b _ => Vl.no | hs => .v hs (spn a (72 * y.p) (mk hs.sz))) | none => .no) = _
    rw [hy]
   rw [this]; trivial
  | some y =>
   by_cases hb : ∃ k, y.h = .b k
   · obtain ⟨k, hb⟩ := hb
     have : XE L m.h a (.tm t) = .no := by
      show (match L.get t with | some y => (match y.h with | .b _ => Vl.no | hs => .v hs (spn a (72 * y.p) (mk hs.sz))) | none => .no) = _
      rw [hy]
      show (match y.h with | .b _ => Vl.no | hs => .v hs (spn a (72 * y.p) (mk hs.sz))) = _
      rw [hb]
     rw [this]; trivial
   ·
    have hb : ∀ k, y.h ≠ .b k := fun k e => hb ⟨k, e⟩
    rw [XE_pl hy hb]
    by_cases ht : t < ps.length
    · obtain ⟨y', v, k1, _, k3, k4⟩ := g3 t ht
      rw [Nat.zero_add, hy] at k1
      cases k1
      have : (args ++ Array.replicate (nt - args.size) undef).getD t undef = v := by
       rw [Array.getD_eq_getD_getElem?, Array.getElem?_append_left (by omega), ← Array.getElem?_toList, k3]
       rfl
      rw [this]; exact k4
    ·
     have hsp : spn a (72 * y.p) (mk y.h.sz) = 0 := eq_of_cel (spn_lt _ _ _) (Nat.two_pow_pos _) fun i hi => by
      rw [cel_spn' hi, hcel0 t y hy (by omega) i hi]
      simp [cel]
     have : (args ++ Array.replicate (nt - args.size) undef).getD t undef = undef := by
      rw [Array.getD_eq_getD_getElem?, Array.getElem?_append_right (by omega)]
      by_cases h : t - args.size < nt - args.size
      · rw [Array.getElem?_eq_getElem (by simpa using h)]; simp
      · rw [Array.getElem?_eq_none (by simpa using h)]; rfl
     rw [this, hsp]
     exact ⟨fun h => absurd rfl h, fun _ _ => rfl, Nat.two_pow_pos _⟩
 ·
  cases e : T.get m.h id with
  | none =>
   have : XE L m.h a (.mt id) = .no := by
    show (match T.get m.h id with | some bk => Vl.mt bk.n bk.ty bk.es bk.ex | none => .no) = _
    rw [e]
   rw [this] at hx; cases hx
  | some bk =>
   obtain ⟨g4, g5⟩ := hH.at_ id bk e
   obtain ⟨k1, k2⟩ := heap_same hE hH g4
   rw [k1] at hx
   obtain ⟨b, k, cs, g⟩ := hR.bl id n ty es ex hx
   exact ⟨b, k, cs, g.mono s.le_refl rfl fun i c hi hx' => by rw [k2 n ty es ex hx i hi] at hx'; exact hx'⟩
 ·
  have key : ∀ i, XE L m.h a (.mt i) ≠ .no → X (.mt i) ≠ .no := fun i hi => by
   cases e : T.get m.h i with
   | none =>
    exfalso; apply hi
    show (match T.get m.h i with | some bk => Vl.mt bk.n bk.ty bk.es bk.ex | none => .no) = _
    rw [e]
   | some bk =>
    obtain ⟨g4, g5⟩ := hH.at_ i bk e
    rw [g5.mt]; intro h; cases h
  exact hR.inj i j b k k' (key i hi) (key j hj) hsi hsj
end
end Go.Proofs.YtehpobojopmilaaGreat.Ev
