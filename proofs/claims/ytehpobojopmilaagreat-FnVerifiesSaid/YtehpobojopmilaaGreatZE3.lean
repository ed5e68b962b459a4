/- The evaluator, texts in one: EvZ4 EvO2 EvC EvC2 EvQ EvQ2 EvQ3. Conditions: none. -/
import Derived.Test.YtehpobojopmilaaGreatZE2
namespace Go.Proofs.YtehpobojopmilaaGreat.Ev
set_option linter.unusedVariables false
set_option linter.unusedSimpArgs false
open Go
set_option maxRecDepth 4000
section
variable {ops : Array Oper} {tx : Tx} {L : T Ly} {N fr fr' : Nat} {X X' : Loc → Vl} {A : List Al} {G : Option (Nat × Bool)}
theorem box_apart (hL : LyOk L N) {d t : Nat} {y yt : Ly} {k kt : Nat} (hy : L.get d = some y) (hk : y.h = .b k) (h1 : 1 ≤ k) (ht : L.get t = some yt) (hkt : yt.h = .b kt) (h2 : 1 ≤ kt) (hp : yt.p = y.p) : t = d := by
 by_cases e : t = d
 · exact e
 · have h3 : y.h.sz = k := by rw [hk]; rfl
   have h4 : yt.h.sz = kt := by rw [hkt]; rfl
   rcases hL.ap t yt d y ht hy e with h | h <;> omega
theorem new_ok (hL : LyOk L N) (hF : FrOk L N fr X) (hA : ∀ a ∈ A, AliOk ops tx L fr X a) {d : Nat} {y : Ly} {k v g ty : Nat} (hy : L.get d = some y) (hk : y.h = .b k) (h1 : 1 ≤ k) (hag : Agree N fr fr' y.p k) (hv : ∀ i, i < k → cel fr' (y.p + i) = cel v i) (h0 : cel v 0 % 8 ≠ 0)
 (hg : GH ≤ g) (hgp : gpos N g = y.p) (hd : X' (.tm d) = .gp g 0) (hmg : X' (.mt g) = .mt k ty 0 true) (hcg : ∀ i, i < k → X' (.cl g i) = .c (cel v i)) (ht : ∀ t, t ≠ d → X' (.tm t) = X (.tm t))
 (hm : ∀ g', GH ≤ g' → g' ≠ g → X' (.mt g') = X (.mt g')) (hc : ∀ g' i, GH ≤ g' → g' ≠ g → X' (.cl g' i) = X (.cl g' i)) : FrOk L N fr' X' ∧ (∀ a ∈ alNew L (some d) (alOff ops.toList (some d) A), AliOk ops tx L fr' X' a) ∧ ∀ D, NZ L fr D → NZ L fr' (d :: D) := by
 have hsz : y.h.sz = k := by rw [hk]; rfl
 have hch : Chg L N fr fr' (some d) := Chg.of hL hy hag (Nat.le_refl _) (by rw [hsz]; exact Nat.le_refl _)
 have hnz : cel fr' y.p % 8 ≠ 0 := by
  have := hv 0 (by omega)
  rw [Nat.add_zero] at this
  rw [this]; exact h0
 refine ⟨⟨fun t yt e1 e2 => ?_, fun t yt kt e1 e2 e3 e4 => ?_⟩, fun a ha => ?_, fun D hD => fun t ht' => ?_⟩
 · have e : t ≠ d := fun e => by subst e; rw [hy] at e1; cases e1; exact e2 k hk
   rw [ht t e, hF.pl t yt e1 e2, spn_same (fr := fr) (fr' := fr') fun i hi => hch.ag t yt e1 (fun e' => e (Option.some.inj e').symm) i hi]
 ·
  by_cases e : t = d
  · subst e
    rw [hy] at e1; cases e1
    rw [hk] at e2; cases e2
    exact ⟨g, hd, hg, hgp, ⟨ty, hmg⟩, fun i hi => by rw [hcg i hi, hv i hi]⟩
  ·
   have hcel : ∀ i, i < kt → cel fr' (yt.p + i) = cel fr (yt.p + i) := fun i hi => hch.ag t yt e1 (fun e' => e (Option.some.inj e').symm) i (by rw [e2]; exact hi)
   have h0' := hcel 0 (by omega)
   rw [Nat.add_zero] at h0'
   rw [h0'] at e4
   obtain ⟨g', hg'⟩ := hF.bx t yt kt e1 e2 e3 e4
   have hne : g' ≠ g := fun e' => e (box_apart hL hy hk h1 e1 e2 e3 (by rw [← hgp, ← hg'.pos, e']))
   exact ⟨g', by rw [ht t e]; exact hg'.tm, hg'.gh, hg'.pos, by rw [hm g' hg'.gh hne]; exact hg'.mt, fun i hi => by rw [hc g' i hg'.gh hne, hg'.cl i hi, hcel i hi]⟩
 ·
  have e : alNew L (some d) (alOff ops.toList (some d) A) = ⟨d, some d, ⟨oK 0, .a y.p⟩, none⟩ :: alOff ops.toList (some d) A := by
   unfold alNew
   show @Option.rec Ly (fun _ => List Al) _ _ (L.get d) = _
   rw [hy]
   obtain ⟨yp, yh⟩ := y
   have hk : yh = .b k := hk
   subst hk
   rfl
  rw [e] at ha
  rcases List.mem_cons.1 ha with rfl | ha
  ·
   refine ⟨fun y' h => ?_, ⟨fun h => absurd rfl (h y.p), fun p hp => ?_⟩, fun _ => ⟨fun h => absurd rfl (h y.p), fun p hp => ?_⟩⟩
   · rw [hy] at h; cases h
     exact ⟨k, hk, rfl⟩
   · cases hp
     exact ⟨rfl, d, y, k, rfl, hy, hk, h1, Nat.le_refl _, hnz⟩
   · cases hp
     exact ⟨d, y, g, rfl, hy, hd, by rw [Nat.sub_self]; exact hd⟩
  ·
   obtain ⟨e1, e2, e3⟩ := alOff_mem ha
   have hal := hA a e1
   have hat : a.t ≠ d := fun e => by
    obtain ⟨k, _, h5⟩ := hal.np y (by rw [e]; exact hy)
    rw [e] at h5; exact e2 h5
   refine hal.keep hch (fun b hb' e => e2 (by rw [hb', e])) (fun t h4 h5 => ht t fun e => ?_) (fun e => hat (Option.some.inj e).symm) fun hG => gd_same e3 ht hG
   subst e
   rcases h5 with h5 | h5
   · exact hat h5
   · exact e2 h5
 · rcases List.mem_cons.1 ht' with rfl | ht'
   · exact ⟨y, k, hy, hk, h1, hnz⟩
   · exact hD.keep hch (fun t y' k' e e1 e2 _ => by cases e; rw [hy] at e1; cases e1; exact hnz) t ht'
theorem alOffV_mem {d : Nat} {a : Al} : ∀ {A : List Al}, a ∈ alOffV (some d) A → a ∈ A ∧ (a.b = some d → ∃ p, a.o.h = .a p)
 | [], h => by cases h
 | x :: A, h => by
  have e : alOffV (some d) (x :: A) = Option.rec (x :: alOffV (some d) A) (fun b => iff' (Nat.beq b d) (match x.o.h with | .a _ => x :: alOffV (some d) A | _ => alOffV (some d) A) (x :: alOffV (some d) A)) x.b := rfl
  rw [e] at h
  have up : a ∈ alOffV (some d) A → a ∈ x :: A ∧ (a.b = some d → ∃ p, a.o.h = .a p) := fun h => by
   obtain ⟨k1, k2⟩ := alOffV_mem (A := A) h
   exact ⟨List.mem_cons_of_mem _ k1, k2⟩
  cases h2 : x.b with
  | none =>
   rw [h2] at h
   rcases List.mem_cons.1 h with rfl | h
   · exact ⟨List.mem_cons_self, fun e => by rw [h2] at e; cases e⟩
   · exact up h
  | some b =>
   rw [h2] at h
   have h : a ∈ iff' (Nat.beq b d) (match x.o.h with | .a _ => x :: alOffV (some d) A | _ => alOffV (some d) A) (x :: alOffV (some d) A) := h
   cases h3 : Nat.beq b d with
   | true =>
    rw [h3] at h
    have h : a ∈ (match x.o.h with | .a _ => x :: alOffV (some d) A | _ => alOffV (some d) A) := h
    split at h
    · rename_i p hp
      rcases List.mem_cons.1 h with rfl | h
      · exact ⟨List.mem_cons_self, fun _ => ⟨p, hp⟩⟩
      · exact up h
    · exact up h
   | false =>
    rw [h3] at h
    rcases List.mem_cons.1 h with rfl | h
    · refine ⟨List.mem_cons_self, fun e => ?_⟩
      rw [h2] at e
      rw [Option.some.inj e, Nat.beq_refl d] at h3; cases h3
    · exact up h
theorem sto_ok (hL : LyOk L N) (hF : FrOk L N fr X) (hA : ∀ a ∈ A, AliOk ops tx L fr X a) {b : Nat} {y : Ly} {k p sz x g : Nat} (hy : L.get b = some y) (hk : y.h = .b k) (h1 : 1 ≤ k) (hp : y.p ≤ p) (hps : p + sz ≤ y.p + k) (hsz : 1 ≤ sz) (hag : Agree N fr fr' p sz) (hv : ∀ i, i < sz → cel fr' (p + i) = cel x i) (h0 : cel x 0 % 8 ≠ 0)
 (hb : BoxAt N X fr b y.p k g) (ht : ∀ t, X' (.tm t) = X (.tm t)) (hcg : ∀ i, i < sz → X' (.cl g (p - y.p + i)) = .c (cel x i)) (hcg' : ∀ q, ¬ (p - y.p ≤ q ∧ q < p - y.p + sz) → X' (.cl g q) = X (.cl g q))
 (hm : ∀ g', GH ≤ g' → X' (.mt g') = X (.mt g')) (hc : ∀ g' i, GH ≤ g' → g' ≠ g → X' (.cl g' i) = X (.cl g' i)) : FrOk L N fr' X' ∧ (∀ a ∈ alOffV (some b) A, AliOk ops tx L fr' X' a) ∧ ∀ D, NZ L fr D → NZ L fr' D := by
 have hys : y.h.sz = k := by rw [hk]; rfl
 have hch : Chg L N fr fr' (some b) := Chg.of hL hy hag hp (by rw [hys]; exact hps)
 have hle := hL.le b y hy
 have hnz : cel fr y.p % 8 ≠ 0 → cel fr' y.p % 8 ≠ 0 := fun h => by
  by_cases e : p = y.p
  · have := hv 0 (by omega)
    rw [Nat.add_zero, e] at this
    rw [this]; exact h0
  · rw [hag y.p (by omega) (by omega) (by omega)]; exact h
 refine ⟨⟨fun t yt e1 e2 => ?_, fun t yt kt e1 e2 e3 e4 => ?_⟩, fun a ha => ?_, fun D hD => hD.keep hch fun t y' k' e e1 e2 e3 => ?_⟩
 · have e : t ≠ b := fun e => by subst e; rw [hy] at e1; cases e1; exact e2 k hk
   rw [ht t, hF.pl t yt e1 e2, spn_same (fr := fr) (fr' := fr') fun i hi => hch.ag t yt e1 (fun e' => e (Option.some.inj e').symm) i hi]
 ·
  by_cases e : t = b
  ·
   subst e
   rw [hy] at e1; cases e1
   rw [hk] at e2; cases e2
   refine ⟨g, by rw [ht]; exact hb.tm, hb.gh, hb.pos, by rw [hm g hb.gh]; exact hb.mt, fun i hi => ?_⟩
   by_cases hin : p - y.p ≤ i ∧ i < p - y.p + sz
   · have := hcg (i - (p - y.p)) (by omega)
     rw [show p - y.p + (i - (p - y.p)) = i by omega] at this
     rw [this, ← hv (i - (p - y.p)) (by omega), show p + (i - (p - y.p)) = y.p + i by omega]
   · rw [hcg' i hin, hb.cl i hi, hag (y.p + i) (by omega) (by omega) (by omega)]
  ·
   have hcel : ∀ i, i < kt → cel fr' (yt.p + i) = cel fr (yt.p + i) := fun i hi => hch.ag t yt e1 (fun e' => e (Option.some.inj e').symm) i (by rw [e2]; exact hi)
   have h0' := hcel 0 (by omega)
   rw [Nat.add_zero] at h0'
   rw [h0'] at e4
   obtain ⟨g', hg'⟩ := hF.bx t yt kt e1 e2 e3 e4
   have hne : g' ≠ g := fun e' => e (box_apart hL hy hk h1 e1 e2 e3 (by rw [← hb.pos, ← hg'.pos, e']))
   exact ⟨g', by rw [ht t]; exact hg'.tm, hg'.gh, hg'.pos, by rw [hm g' hg'.gh]; exact hg'.mt, fun i hi => by rw [hc g' i hg'.gh hne, hg'.cl i hi, hcel i hi]⟩
 ·
  obtain ⟨e1, e2⟩ := alOffV_mem ha
  have hal := hA a e1
  have hgd : GdOn ops X' a.g → GdOn ops X a.g := fun hG j x e => by
   obtain ⟨t, h1, h2⟩ := hG j x e
   exact ⟨t, h1, by rw [← ht t]; exact h2⟩
  by_cases e : a.b = some b
  ·
   obtain ⟨q, hq⟩ := e2 e
   refine ⟨hal.np, ⟨fun h => absurd hq (h q), fun p' hp' => ?_⟩, fun hG => ⟨fun h => absurd hq (h q), fun p' hp' => ?_⟩⟩
   · obtain ⟨f1, b', y', k', f2, f3, f4, f5, f6, f7⟩ := hal.wf.2 p' hp'
     refine ⟨f1, b', y', k', f2, f3, f4, f5, f6, ?_⟩
     rw [e] at f2; cases f2
     rw [hy] at f3; cases f3
     exact hnz f7
   · obtain ⟨b', y', g', f1, f2, f3, f4⟩ := (hal.is (hgd hG)).2 p' hp'
     exact ⟨b', y', g', f1, f2, by rw [ht]; exact f3, by rw [ht]; exact f4⟩
  · refine hal.keep hch (fun b' hb' e' => e (by rw [hb', e'])) (fun t _ _ => ht t) (fun e' => ?_) hgd
    have e' := Option.some.inj e'
    obtain ⟨_, _, f⟩ := hal.np y (by rw [← e']; exact hy)
    exact e (by rw [f, e'])
 · cases e
   rw [hy] at e1; cases e1
   exact hnz e3
theorem ali_ok (hF : FrOk L N fr X) (hA : ∀ a ∈ A, AliOk ops tx L fr X a) {d : Nat} (hd : L.get d = none) (hn : isAl d A = false) (ht : ∀ t, t ≠ d → X' (.tm t) = X (.tm t))
 (hm : ∀ g, X' (.mt g) = X (.mt g)) (hc : ∀ g i, X' (.cl g i) = X (.cl g i)) {a0 : Al} (h0 : AliOk ops tx L fr X' a0) : FrOk L N fr X' ∧ (∀ a ∈ a0 :: alOff ops.toList (some d) A, AliOk ops tx L fr X' a) := by
 have hne : ∀ t y, L.get t = some y → t ≠ d := fun t y h e => by rw [e, hd] at h; cases h
 refine ⟨⟨fun t y e1 e2 => by rw [ht t (hne t y e1)]; exact hF.pl t y e1 e2, fun t y k e1 e2 e3 e4 => ?_⟩, fun a ha => ?_⟩
 · obtain ⟨g, hg⟩ := hF.bx t y k e1 e2 e3 e4
   exact ⟨g, by rw [ht t (hne t y e1)]; exact hg.tm, hg.gh, hg.pos, by rw [hm]; exact hg.mt, fun i hi => by rw [hc]; exact hg.cl i hi⟩
 ·
  rcases List.mem_cons.1 ha with rfl | ha
  · exact h0
  ·
   obtain ⟨e1, e2, e3⟩ := alOff_mem ha
   have hat : a.t ≠ d := fun e => by
    have : ∀ (A : List Al), a ∈ A → isAl d A = true := fun A => by
     induction A with
     | nil => intro h; cases h
     | cons x A ih =>
      intro h
      have e4 : isAl d (x :: A) = iff' (Nat.beq x.t d) true (isAl d A) := rfl
      rw [e4]
      rcases List.mem_cons.1 h with rfl | h
      · rw [e, Nat.beq_refl d]; rfl
      · rw [ih h]; cases Nat.beq x.t d <;> rfl
    rw [this A e1] at hn; cases hn
   refine (hA a e1).keep (d := none) (N := N) ⟨fun _ _ _ _ _ _ => rfl⟩ (fun _ _ e => by cases e) (fun t _ h5 => ht t fun e => ?_) (fun e => by cases e) fun hG => gd_same e3 ht hG
   subst e
   rcases h5 with h5 | h5
   · exact hat h5
   · exact e2 h5
end
end Go.Proofs.YtehpobojopmilaaGreat.Ev
namespace Go.Proofs.YtehpobojopmilaaGreat.Ev
set_option linter.unusedVariables false
set_option linter.unusedSimpArgs false
open Go
set_option maxRecDepth 4000
structure Ix where
 τ : Tm
 r : Rec
 g0 : Nat
 g1 : Nat
def inBox (L : T Ly) (p k : Nat) : Prop := ∃ d y n, L.get d = some y ∧ y.p = p ∧ y.h = .b n ∧ k < n
def Ix.R (L : T Ly) (N : Nat) (x : Ix) : Loc → Prop
 | .tm t => 2 * t ∈ x.τ.r
 | .mt id => (id < GH ∧ ((∃ q ∈ x.r.rd, accI q = id) ∨ (x.r.cl = true ∧ id < x.r.a0))) ∨ (GH ≤ id ∧ ∃ k, inBox L (gpos N id) k ∧ (2 * (gpos N id + k) + 1 ∈ x.τ.r ∨ 2 * (gpos N id + k) + 1 ∈ x.τ.w))
 | .cl id k => (id < GH ∧ ((∃ q ∈ x.r.rd, cov q (.cl id k)) ∨ (x.r.cl = true ∧ id < x.r.a0))) ∨ (GH ≤ id ∧ 2 * (gpos N id + k) + 1 ∈ x.τ.r)
def Ix.W (L : T Ly) (N : Nat) (x : Ix) : Loc → Prop
 | .tm t => 2 * t ∈ x.τ.w
 | .mt id => (id < GH ∧ ((∃ q ∈ x.r.wr, q = acc id 0 4095) ∨ (x.r.a0 ≤ id ∧ id < x.r.a1))) ∨ (GH ≤ id ∧ x.g0 ≤ id ∧ id < x.g1)
 | .cl id k => (id < GH ∧ ((∃ q ∈ x.r.wr, cov q (.cl id k)) ∨ (x.r.a0 ≤ id ∧ id < x.r.a1))) ∨ (GH ≤ id ∧ 2 * (gpos N id + k) + 1 ∈ x.τ.w)
def Ix.L (x : Ix) (id : Nat) : Prop := GH ≤ id ∨ ∃ q ∈ x.r.wr, accI q = id
def Ix.N (x : Ix) (id : Nat) : Prop := (x.r.a0 ≤ id ∧ id < x.r.a1) ∨ (x.g0 ≤ id ∧ id < x.g1)
def Ix.stp (L : T Ly) (N : Nat) (x : Ix) : Stp Loc := ⟨x.R L N, x.W L N, x.L, x.N⟩
structure IxOk (L : T Ly) (N : Nat) (x : Ix) : Prop where
 rd : ∀ q ∈ x.r.rd, 1 ≤ accN q ∧ accC q + accN q ≤ 4095
 wr : x.r.cl = false → ∀ q ∈ x.r.wr, q ∈ x.r.rd
 wrc : x.r.cl = true → ∀ q ∈ x.r.wr, accI q < x.r.a0
 crd : x.r.cl = true → x.r.rd = []
 hi : x.r.a1 ≤ GH
 gh : GH ≤ x.g0
 new : ∀ g, x.g0 ≤ g → g < x.g1 → inBox L (gpos N g) 0 ∧ ∀ k, inBox L (gpos N g) k → 2 * (gpos N g + k) + 1 ∈ x.τ.w
def TmFree (a b : Tm) : Prop := (∀ x ∈ a.w, x ∉ b.r ∧ x ∉ b.w) ∧ ∀ x ∈ b.w, x ∉ a.r
def PrF (a b : Rec) : Prop := inert a = true ∨ free a b = true
theorem isNil_t {α : Type} {l : List α} (h : isNil l = true) : l = [] := by cases l with | nil => rfl | cons => cases h
theorem inert_t {a : Rec} (h : inert a = true) : a.wr = [] ∧ a.a0 = a.a1 := by
 unfold inert at h
 obtain ⟨h1, h2⟩ := iff_tt h
 exact ⟨isNil_t h1, beq_t h2⟩
theorem apart_t {a b : Nat} (h : apart a b = true) (he : accI a = accI b) : accC a + accN a ≤ accC b ∨ accC b + accN b ≤ accC a := by
 unfold apart at h
 rw [he, show Nat.beq (accI b) (accI b) = true from Nat.beq_refl _] at h
 have h : iff' (Nat.ble (accC a + accN a) (accC b)) true (Nat.ble (accC b + accN b) (accC a)) = true := h
 cases h1 : Nat.ble (accC a + accN a) (accC b) with
 | true => exact .inl (ble_t h1)
 | false => rw [h1] at h; exact .inr (ble_t h)
theorem disj1_t {x : Nat} : ∀ {b : List Nat}, disj1 x b = true → ∀ y ∈ b, apart x y = true
 | [], _, y, hy => by cases hy
 | z :: b, h, y, hy => by
  have h : iff' (apart x z) (disj1 x b) false = true := h
  obtain ⟨h1, h2⟩ := iff_tt h
  rcases List.mem_cons.1 hy with rfl | hy
  · exact h1
  · exact disj1_t h2 y hy
theorem disj_t : ∀ {a b : List Nat}, disj a b = true → ∀ x ∈ a, ∀ y ∈ b, apart x y = true
 | [], b, _, x, hx => by cases hx
 | z :: a, b, h, x, hx => by
  have h : iff' (disj1 z b) (disj a b) false = true := h
  obtain ⟨h1, h2⟩ := iff_tt h
  rcases List.mem_cons.1 hx with rfl | hx
  · exact disj1_t h1
  · exact disj_t h2 x hx
theorem noAl_t {a0 a1 : Nat} : ∀ {rd : List Nat}, noAl a0 a1 rd = true → ∀ q ∈ rd, ¬ (a0 ≤ accI q ∧ accI q < a1)
 | [], _, q, hq => by cases hq
 | z :: rd, h, q, hq => by
  have h : iff' (Nat.ble a0 (accI z)) (iff' (Nat.ble a1 (accI z)) (noAl a0 a1 rd) false) (noAl a0 a1 rd) = true := h
  have key : ¬ (a0 ≤ accI z ∧ accI z < a1) ∧ noAl a0 a1 rd = true := by
   cases h1 : Nat.ble a0 (accI z) with
   | true =>
    rw [h1] at h
    obtain ⟨h2, h3⟩ := iff_tt (show iff' (Nat.ble a1 (accI z)) (noAl a0 a1 rd) false = true from h)
    have := ble_t h2
    exact ⟨by omega, h3⟩
   | false =>
    rw [h1] at h
    refine ⟨fun ⟨h2, _⟩ => ?_, h⟩
    have := Nat.ble_eq_true_of_le h2
    rw [h1] at this; cases this
  rcases List.mem_cons.1 hq with rfl | hq
  · exact key.1
  · exact noAl_t key.2 q hq
def hpL : Loc → Prop
 | .tm _ => False
 | .mt id => id < GH
 | .cl id _ => id < GH
def nwL (b : Rec) : Loc → Prop
 | .tm _ => False
 | .mt id => b.a0 ≤ id ∧ id < b.a1
 | .cl id _ => b.a0 ≤ id ∧ id < b.a1
theorem pf_heap {L : T Ly} {N : Nat} {a b : Ix} (ha : IxOk L N a) (hb : IxOk L N b) (h : PrF a.r b.r) (hm1 : b.r.cl = true → ¬ a.r.i ≤ b.r.i → a.r.a0 < a.r.a1 → b.r.a0 ≤ a.r.a0) (hm2 : b.r.a0 < b.r.a1 → a.r.a0 < a.r.a1 → b.r.a1 ≤ a.r.a0 ∨ a.r.a1 ≤ b.r.a0)
 {l : Loc} (hl : hpL l) (hW : a.W L N l) : ¬ b.R L N l ∧ (b.W L N l → (∃ q ∈ a.r.wr, cov q l) ∧ nwL b.r l) := by
 rcases h with h | h
 ·
  obtain ⟨h1, h2⟩ := inert_t h
  exfalso
  cases l with
  | tm t => exact hl
  | mt id =>
   rcases hW with ⟨_, ⟨q, hq, _⟩ | h3⟩ | ⟨h3, _⟩
   · rw [h1] at hq; cases hq
   · omega
   · have : id < GH := hl
     omega
  | cl id k =>
   rcases hW with ⟨_, ⟨q, hq, _⟩ | h3⟩ | ⟨h3, _⟩
   · rw [h1] at hq; cases hq
   · omega
   · have : id < GH := hl
     omega
 ·
  unfold free at h
  cases hcl : b.r.cl with
  | true =>
   rw [hcl] at h
   obtain ⟨h1, h2⟩ := iff_tt (show iff' (isNil a.r.wr) (iff' (Nat.ble a.r.i b.r.i) (Nat.beq a.r.a0 a.r.a1) true) false = true from h)
   have h1 := isNil_t h1
   have hcrd := hb.crd hcl
   have hnew : a.r.a0 < a.r.a1 → ¬ a.r.i ≤ b.r.i := fun hlt hle => by
    have e : Nat.ble a.r.i b.r.i = true := Nat.ble_eq_true_of_le hle
    rw [e] at h2
    have := beq_t (show Nat.beq a.r.a0 a.r.a1 = true from h2)
    omega
   have hid : ∀ id, a.r.a0 ≤ id → id < a.r.a1 → b.r.a0 ≤ id ∧ ¬ (b.r.a0 ≤ id ∧ id < b.r.a1) := fun id g1 g2 => by
    have h3 : a.r.a0 < a.r.a1 := by omega
    have h4 := hm1 hcl (hnew h3) h3
    refine ⟨by omega, fun h5 => ?_⟩
    rcases hm2 (by omega) h3 with h6 | h6 <;> omega
   cases l with
   | tm t => exact hl.elim
   | mt id =>
    rcases hW with ⟨_, ⟨q, hq, _⟩ | ⟨g1, g2⟩⟩ | ⟨h3, _⟩
    · rw [h1] at hq; cases hq
    ·
     obtain ⟨f1, f2⟩ := hid id g1 g2
     refine ⟨?_, ?_⟩
     · rintro (⟨_, ⟨q, hq, _⟩ | ⟨_, h5⟩⟩ | ⟨h5, _⟩)
       · rw [hcrd] at hq; cases hq
       · omega
       · have : id < GH := hl
         omega
     · rintro (⟨_, ⟨q, hq, h5⟩ | h5⟩ | ⟨h5, _⟩)
       · have := hb.wrc hcl q hq
         rw [h5, (acc_all id).1] at this; omega
       · exact absurd h5 f2
       · have : id < GH := hl
         omega
    · have : id < GH := hl
      omega
   | cl id k =>
    rcases hW with ⟨_, ⟨q, hq, _⟩ | ⟨g1, g2⟩⟩ | ⟨h3, _⟩
    · rw [h1] at hq; cases hq
    ·
     obtain ⟨f1, f2⟩ := hid id g1 g2
     refine ⟨?_, ?_⟩
     · rintro (⟨_, ⟨q, hq, _⟩ | ⟨_, h5⟩⟩ | ⟨h5, _⟩)
       · rw [hcrd] at hq; cases hq
       · omega
       · have : id < GH := hl
         omega
     · rintro (⟨_, ⟨q, hq, h5⟩ | h5⟩ | ⟨h5, _⟩)
       · have := hb.wrc hcl q hq
         rw [h5.1] at this; omega
       · exact absurd h5 f2
       · have : id < GH := hl
         omega
    · have : id < GH := hl
      omega
  | false =>
   rw [hcl] at h
   obtain ⟨h1, h2⟩ := iff_tt (show iff' (disj a.r.wr b.r.rd) (noAl a.r.a0 a.r.a1 b.r.rd) false = true from h)
   have h1 := disj_t h1
   have h2 := noAl_t h2
   have key : ∀ q' ∈ b.r.rd, ¬ cov q' l := fun q' hq' hc' => by
    cases l with
    | tm t => exact hl
    | mt id =>
     rcases hW with ⟨_, ⟨q, hq, he⟩ | h3⟩ | ⟨h3, _⟩
     · have h4 := h1 q hq q' hq'
       obtain ⟨a1, a2, a3⟩ := acc_all id
       have hc' : accI q' = id := hc'
       subst he
       have h5 := apart_t h4 (by rw [a1, hc'])
       obtain ⟨b1, b2⟩ := hb.rd q' hq'
       rw [a2, a3] at h5
       omega
     · have hc' : accI q' = id := hc'
       exact h2 q' hq' (by rw [hc']; exact h3)
     · have : id < GH := hl
       omega
    | cl id k =>
     rcases hW with ⟨_, ⟨q, hq, he⟩ | h3⟩ | ⟨h3, _⟩
     · have h4 := h1 q hq q' hq'
       have h5 := apart_t h4 (by rw [he.1, hc'.1])
       have := he.2
       have := hc'.2
       omega
     · exact h2 q' hq' (by rw [hc'.1]; exact h3)
     · have : id < GH := hl
       omega
   refine ⟨?_, fun hWb => ?_⟩
   ·
    cases l with
    | tm t => exact hl.elim
    | mt id =>
     rintro (⟨_, ⟨q, hq, h5⟩ | ⟨h5, _⟩⟩ | ⟨h5, _⟩)
     · exact key q hq h5
     · rw [hcl] at h5; cases h5
     · have : id < GH := hl
       omega
    | cl id k =>
     rintro (⟨_, ⟨q, hq, h5⟩ | ⟨h5, _⟩⟩ | ⟨h5, _⟩)
     · exact key q hq h5
     · rw [hcl] at h5; cases h5
     · have : id < GH := hl
       omega
   ·
    cases l with
    | tm t => exact hl.elim
    | mt id =>
     have hid : id < GH := hl
     rcases hWb with ⟨_, ⟨q, hq, h5⟩ | h5⟩ | ⟨h5, _⟩
     · exact absurd (by rw [h5]; exact (acc_all id).1) (key q (hb.wr hcl q hq))
     · refine ⟨?_, h5⟩
       rcases hW with ⟨_, ⟨q, hq, he⟩ | h3⟩ | ⟨h3, _⟩
       · exact ⟨q, hq, by rw [he]; exact (acc_all id).1⟩
       · exfalso; rcases hm2 (by omega) (by omega) with h6 | h6 <;> omega
       · omega
     · omega
    | cl id k =>
     have hid : id < GH := hl
     rcases hWb with ⟨_, ⟨q, hq, h5⟩ | h5⟩ | ⟨h5, _⟩
     · exact absurd h5 (key q (hb.wr hcl q hq))
     · refine ⟨?_, h5⟩
       rcases hW with ⟨_, ⟨q, hq, he⟩ | h3⟩ | ⟨h3, _⟩
       · exact ⟨q, hq, he⟩
       · exfalso; rcases hm2 (by omega) (by omega) with h6 | h6 <;> omega
       · omega
     · omega
def Mo (a b : Rec) : Prop := (a.a0 < a.a1 → b.a0 < b.a1 → a.a1 ≤ b.a0) ∧ (a.cl = true → b.a0 < b.a1 → a.a0 ≤ b.a0)
theorem ordered_ix {L : T Ly} {N : Nat} {ops : Array Oper} {ix : Nat → Ix} (hok : ∀ k, k < ops.size → IxOk L N (ix k)) (hi : ∀ k, k < ops.size → (ix k).r.i = k)
 (hτ : ∀ i j, i < j → j < ops.size → Anc ops j i ∨ TmFree (ix i).τ (ix j).τ) (hr : ∀ i j, i < j → j < ops.size → Anc ops j i ∨ (PrF (ix i).r (ix j).r ∧ PrF (ix j).r (ix i).r)) (hmo : ∀ i j, i < j → j < ops.size → Mo (ix i).r (ix j).r)
 (hgh : ∀ i j, i < j → j < ops.size → (ix i).g0 < (ix i).g1 → (ix j).g0 < (ix j).g1 → (ix i).g1 ≤ (ix j).g0) : Ordered ops (fun k => (ix k).stp L N) := by
 intro i j hin hj hij l hl
 rcases hτ i j hij hj with h | ⟨t1, t2⟩
 · exact h
 rcases hr i j hij hj with h | ⟨r1, r2⟩
 · exact h
 exfalso
 have oi := hok i hin
 have oj := hok j hj
 obtain ⟨m1, m2⟩ := hmo i j hij hj
 have ei := hi i hin
 have ej := hi j hj
 have heap : hpL l → False := fun hl' => by
  have f1 := fun hW => pf_heap oi oj r1 (fun _ hn => absurd (by omega) hn) (fun h1 h2 => .inr (m1 h2 h1)) hl' hW
  have f2 := fun hW => pf_heap oj oi r2 (fun hc _ h1 => m2 hc h1) (fun h1 h2 => .inl (m1 h1 h2)) hl' hW
  have both : (ix i).W L N l → (ix j).W L N l → False := fun h1 h2 => by
   have g1 := ((f1 h1).2 h2).2
   have g2 := ((f2 h2).2 h1).2
   cases l with
   | tm t => exact hl'
   | mt id =>
    obtain ⟨a1, a2⟩ : (ix j).r.a0 ≤ id ∧ id < (ix j).r.a1 := g1
    obtain ⟨b1, b2⟩ : (ix i).r.a0 ≤ id ∧ id < (ix i).r.a1 := g2
    have := m1 (by omega) (by omega); omega
   | cl id k =>
    obtain ⟨a1, a2⟩ : (ix j).r.a0 ≤ id ∧ id < (ix j).r.a1 := g1
    obtain ⟨b1, b2⟩ : (ix i).r.a0 ≤ id ∧ id < (ix i).r.a1 := g2
    have := m1 (by omega) (by omega); omega
  rcases hl with ⟨h1, h2 | h2⟩ | ⟨h1, h2 | h2⟩
  · exact (f1 h1).1 h2
  · exact both h1 h2
  · exact (f2 h1).1 h2
  · exact both h2 h1
 cases l with
 | tm t =>
  rcases hl with ⟨h1, h2 | h2⟩ | ⟨h1, h2 | h2⟩
  · exact (t1 _ h1).1 h2
  · exact (t1 _ h1).2 h2
  · exact t2 _ h1 h2
  · exact (t1 _ h2).2 h1
 | mt id =>
  by_cases hid : id < GH
  · exact heap hid
  ·
   have hid : GH ≤ id := by omega
   have gW : ∀ k, (ix k).W L N (.mt id) → (ix k).g0 ≤ id ∧ id < (ix k).g1 := fun k h => by
    rcases h with ⟨h, _⟩ | ⟨_, h⟩
    · omega
    · exact h
   have gR : ∀ k, (ix k).R L N (.mt id) → ∃ q, inBox L (gpos N id) q ∧ (2 * (gpos N id + q) + 1 ∈ (ix k).τ.r ∨ 2 * (gpos N id + q) + 1 ∈ (ix k).τ.w) := fun k h => by
    rcases h with ⟨h, _⟩ | ⟨_, h⟩
    · omega
    · exact h
   rcases hl with ⟨h1, h2 | h2⟩ | ⟨h1, h2 | h2⟩
   · obtain ⟨g1, g2⟩ := gW i h1
     obtain ⟨q, g3, g4⟩ := gR j h2
     have g5 := (oi.new id g1 g2).2 q g3
     rcases g4 with g4 | g4
     · exact (t1 _ g5).1 g4
     · exact (t1 _ g5).2 g4
   · have := gW i h1
     have := gW j h2
     have := hgh i j hij hj (by omega) (by omega)
     omega
   · obtain ⟨g1, g2⟩ := gW j h1
     obtain ⟨q, g3, g4⟩ := gR i h2
     have g5 := (oj.new id g1 g2).2 q g3
     rcases g4 with g4 | g4
     · exact t2 _ g5 g4
     · exact (t1 _ g4).2 g5
   · have := gW j h1
     have := gW i h2
     have := hgh i j hij hj (by omega) (by omega)
     omega
 | cl id k =>
  by_cases hid : id < GH
  · exact heap hid
  ·
   have hid : GH ≤ id := by omega
   have gW : ∀ q, (ix q).W L N (.cl id k) → 2 * (gpos N id + k) + 1 ∈ (ix q).τ.w := fun q h => by
    rcases h with ⟨h, _⟩ | ⟨_, h⟩
    · omega
    · exact h
   have gR : ∀ q, (ix q).R L N (.cl id k) → 2 * (gpos N id + k) + 1 ∈ (ix q).τ.r := fun q h => by
    rcases h with ⟨h, _⟩ | ⟨_, h⟩
    · omega
    · exact h
   rcases hl with ⟨h1, h2 | h2⟩ | ⟨h1, h2 | h2⟩
   · exact (t1 _ (gW i h1)).1 (gR j h2)
   · exact (t1 _ (gW i h1)).2 (gW j h2)
   · exact t2 _ (gW j h1) (gR i h2)
   · exact (t1 _ (gW i h2)).2 (gW j h1)
end Go.Proofs.YtehpobojopmilaaGreat.Ev
namespace Go.Proofs.YtehpobojopmilaaGreat.Ev
set_option linter.unusedVariables false
set_option linter.unusedSimpArgs false
open Go
set_option maxRecDepth 4000
theorem wpOp_ex {P : Program} {ops : Array Oper} {i : Nat} {K : Act → World → Prop} {a : Act} {w : World} (h : wpOp P ops (fun _ _ _ => False) i K a w) : ∃ a' w', K a' w' := by
 have hlo : ¬ LetsOut (fun _ _ _ => False) := fun ⟨_, _, h⟩ => h
 unfold wpOp at h
 cases ho : ops[i]? with
 | none => rw [ho] at h; exact ⟨_, _, h⟩
 | some o =>
  rw [ho] at h
  have h : if Region.wanted o (yielded ops a.tmps) then o.wp P a w K (fun _ _ _ => False) ∨ (o.asks P a w ∧ LetsOut (fun _ _ _ => False)) else K (a.put o.dst undef) w := h
  by_cases hw : Region.wanted o (yielded ops a.tmps) = true
  ·
   rw [if_pos hw] at h
   rcases h with h | ⟨_, h⟩
   ·
    unfold Oper.wp at h
    generalize (execOp a.eval o).run P w = r at h
    cases r with
    | ok n w' =>
     cases n with
     | value v => exact ⟨_, _, h⟩
     | skip => exact ⟨_, _, h⟩
     | defer d => exact ⟨_, _, h⟩
     | enter f args =>
      have h : Calls P f args w' _ := h
      obtain ⟨e, w2, fr, h1, _⟩ := h []
      cases e with
      | returned v => exact ⟨_, _, h1⟩
      | panicked c => exact h1.elim
      | outgrown => exact (hlo h1).elim
     | row row args =>
      have h : Rows P row args w' _ := h
      obtain ⟨v, w2, h1, _⟩ := h default []
      exact ⟨_, _, h1⟩
     | _ => exact h.elim
    | halt x w' => cases x <;> exact h.elim
   · exact (hlo h).elim
  · rw [if_neg hw] at h; exact ⟨_, _, h⟩
def FreshS (N nx γ : Nat) (s : Sg) : Prop := (∀ i, nx ≤ i → i < GH → s i = none) ∧ ∀ i, GH + γ * N ≤ i → s i = none
def Live (tx : Tx) (nt N : Nat) (X : Loc → Vl) (nx γ : Nat) : Prop := ∃ s a w, Rel tx nt s X a w ∧ FreshS N nx γ s
theorem over_all {X X' : Loc → Vl} {W : Loc → Prop} (h : ∀ l, ¬ W l → X' l = X l) : over X X' W = X' := by
 funext l
 by_cases hW : W l
 · exact over_in hW
 · rw [over_out hW]; exact (h l hW).symm
theorem live_step {tx : Tx} {nt N : Nat} {P : Program} {ops : Array Oper} {i nx γ nx' γ' : Nat} {X X' : Loc → Vl} {p : Stp Loc} (hl : Live tx nt N X nx γ) (hst : StpOk (Rel tx nt) P ops (fun _ _ _ => False) i X X' p) (hout : ∀ l, ¬ p.W l → X' l = X l)
 (hN : ∀ j, p.N j → (nx ≤ j ∧ j < GH) ∨ GH + γ * N ≤ j) (hN' : ∀ j, p.N j → ¬ (nx' ≤ j ∧ j < GH) ∧ ¬ GH + γ' * N ≤ j) (h1 : nx ≤ nx') (h2 : γ ≤ γ') : Live tx nt N X' nx' γ' := by
 obtain ⟨s, a, w, hr, hf1, hf2⟩ := hl
 obtain ⟨a', w', s', ht, hr'⟩ := wpOp_ex (hst s X a w (fun _ _ => rfl) hr (fun j hj => by
   rcases hN j hj with ⟨h, h'⟩ | h
   · exact hf1 j h h'
   · exact hf2 j h) (fun a' w' => ∃ s', Trs p.L p.N s w s' w' ∧ Rel tx nt s' (over X X' p.W) a' w') fun s' a' w' h1 h2 => ⟨s', h1, h2⟩)
 rw [over_all hout] at hr'
 have hm : γ * N ≤ γ' * N := Nat.mul_le_mul_right _ h2
 refine ⟨s', a', w', hr', fun j h h' => ?_, fun j h => ?_⟩
 ·
  cases e : s' j with
  | none => rfl
  | some x =>
   rcases ht.dom j x e with h3 | ⟨_, h3⟩
   · rw [hf1 j (by omega) h'] at h3; cases h3
   · exact absurd ⟨h, h'⟩ (hN' j h3).1
 ·
  cases e : s' j with
  | none => rfl
  | some x =>
   rcases ht.dom j x e with h3 | ⟨_, h3⟩
   · rw [hf2 j (by omega)] at h3; cases h3
   · exact absurd h (hN' j h3).2
def ArgsAre (tx : Tx) (s : Sg) : List TI → Nat → Nat → List Value → Prop
 | [], p, a, vs => vs = [] ∧ a < 2 ^ (72 * p)
 | ti :: ts, p, a, vs => ∃ v vs', vs = v :: vs' ∧ Cl tx s (shOf ti) (spn a (72 * p) (mk ti.sz)) v ∧ ArgsAre tx s ts (p + ti.sz) a vs'
structure CallPost (tx : Tx) (rs : List TI) (m : Me) (v : Nat) (m' : Me) (s : Sg) (X : Loc → Vl) (w : World) (s' : Sg) (X' : Loc → Vl) (w' : World) (u : Value) : Prop where
 tr : Trs (fun j => ∃ q ∈ m'.lg, accI q = j) (fun j => m.nx ≤ j ∧ j < m'.nx) s w s' w'
 rel : RelH tx s' X' w'
 heap : HeapIs X' m'.h m'.nx
 mt : ∀ id, id < m.nx → X' (.mt id) = X (.mt id) ∨ (X' (.mt id) = .no ∧ acc id 0 4095 ∈ m'.lg)
 cl : ∀ id k, id < m.nx → X' (.cl id k) = X (.cl id k) ∨ ∃ q ∈ m'.lg, cov q (.cl id k)
 val : VR tx s' (retSh rs) v u
structure CallOk (P : Program) (tx : Tx) (TY : T TI) (g a : Nat) (m : Me) (v : Nat) (m' : Me) : Prop where
 nx : m.nx ≤ m'.nx
 run : ∃ fn c, P.funcs[g]? = some fn ∧ fn.body = some c ∧ ∀ ts rs, cTys TY fn.params.toList = some ts → cTys TY fn.resultTypes.toList = some rs → ∀ s X w args, HeapIs X m.h m.nx → RelH tx s X w → (∀ i, m.nx ≤ i → s i = none) → ArgsAre tx s ts 1 a args.toList →
  (∀ q ∈ m'.lg, accI q < m.nx ∧ X (.mt (accI q)) ≠ .no) ∧ m'.nx ≤ 1000001 ∧ Calls P g args w fun e w' => ∃ s' X' u, e = .returned u ∧ CallPost tx rs m v m' s X w s' X' w' u
def CallPre (P : Program) (tx : Tx) (TY : T TI) (g a : Nat) (m : Me) : Prop := ∃ fn ts s X w, ∃ args : Array Value, P.funcs[g]? = some fn ∧ cTys TY fn.params.toList = some ts ∧ HeapIs X m.h m.nx ∧ RelH tx s X w ∧ (∀ i, m.nx ≤ i → s i = none) ∧ ArgsAre tx s ts 1 a args.toList
theorem heap_same {X1 X2 : Loc → Vl} {h : HT} {nx : Nat} (h1 : HeapIs X1 h nx) (h2 : HeapIs X2 h nx) {id : Nat} (hid : id < nx) : X1 (.mt id) = X2 (.mt id) ∧ ∀ n ty es ex, X2 (.mt id) = .mt n ty es ex → ∀ k, k < n → X1 (.cl id k) = X2 (.cl id k) := by
 cases e : T.get h id with
 | none =>
  have h4 := h2.no id hid e
  exact ⟨by rw [h1.no id hid e, h4], fun n ty es ex h5 => by rw [h4] at h5; cases h5⟩
 | some bk =>
  have a1 := (h1.at_ id bk e).2
  have a2 := (h2.at_ id bk e).2
  refine ⟨by rw [a1.mt, a2.mt], fun n ty es ex h5 k hk => ?_⟩
  rw [a2.mt] at h5
  cases h5
  rw [a1.cl k hk, a2.cl k hk]
def cut (s : Sg) (nx : Nat) : Sg := fun i => if i < nx then s i else none
def CutOk (tx : Tx) (nx c : Nat) : Prop := ∀ (s : Sg) (v : Value), RC tx s c v → RC tx (cut s nx) c v
theorem RC.cut {tx : Tx} {s1 : Sg} {c nx : Nat} {v1 : Value} (h1 : RC tx s1 c v1) (hf : ∀ i, nx ≤ i → i < GH → s1 i = none) : CutOk tx nx c := by
 intro s v h
 have lt : ∀ id, id < 1048575 → s1 id ≠ none → id < nx := fun id h2 h3 => by
  by_cases h4 : id < nx
  · exact h4
  · exact absurd (hf id (by omega) (by unfold GH; omega)) h3
 cases h with
 | i n m h h2 => exact .i n m h h2
 | b x => exact .b x
 | u n h => exact .u n h
 | s l h => exact .s l h
 | z off len h h2 h3 => exact .z off len h h2 h3
 | p0 => exact .p0
 | l0 => exact .l0
 | p id co b k h h2 h3 =>
  refine .p id co b k ((if_pos ?_).trans h) h2 h3
  rcases h1.t6 (by omega) with ⟨_, e⟩ | ⟨id', co', b', k', _, e, e2, e3, _⟩
  · omega
  · have : id = id' := by omega
    subst this
    exact lt id h2 (by rw [e2]; intro h; cases h)
 | e a q h => exact .e a q h
 | l id eo n es b k h h2 h3 h4 h5 h6 h7 =>
  by_cases h15 : 8 * (id + 1 + (eo + (n + es * 4096) * 4096) * 1048576) + 7 = 15
  · have : n = 0 := by omega
    subst this
    rw [h15]
    exact .e _ _ (by omega)
  refine .l id eo n es b k ((if_pos ?_).trans h) h2 h3 h4 h5 h6 h7
  rcases h1.t7 (by omega) with ⟨_, e⟩ | ⟨id', eo', n', es', b', k', _, e, e2, e3, _⟩ | ⟨_, _, _, e, _⟩
  · omega
  · have : id = id' := by omega
    subst this
    exact lt id h2 (by rw [e2]; intro h; cases h)
  · omega
theorem RL.cut {tx : Tx} {s1 s : Sg} {c k nx : Nat} {cs1 cs : List Value} (h1 : RL tx s1 c k cs1) (hf : ∀ i, nx ≤ i → i < GH → s1 i = none) (h : RL tx s c k cs) : RL tx (Go.Proofs.YtehpobojopmilaaGreat.Ev.cut s nx) c k cs :=
 ⟨h.1, h.2.1, fun i hi => RC.cut (h1.2.2 i (by rw [h1.1, ← h.1]; exact hi)) hf _ _ (h.2.2 i hi)⟩
theorem TRl.cut {tx : Tx} {s1 s : Sg} {nx : Nat} (hf : ∀ i, nx ≤ i → i < GH → s1 i = none) : ∀ (l : List (Nat × Bool)) (c : Nat) (vs1 vs : List Value), TRl tx s1 l c vs1 → TRl tx s l c vs → TRl tx (Go.Proofs.YtehpobojopmilaaGreat.Ev.cut s nx) l c vs
 | [], c, vs1, vs, _, h => h
 | (k, ag) :: r, c, vs1, vs, h1, h => by
  obtain ⟨v1, vs1', _, a1, a2⟩ := h1
  obtain ⟨v, vs', rfl, b1, b2⟩ := h
  refine ⟨v, vs', rfl, ?_, TRl.cut hf r _ _ _ a2 b2⟩
  cases ag with
  | false => exact ⟨b1.1, RC.cut a1.2 hf _ _ b1.2⟩
  | true =>
   obtain ⟨cs1, _, a3⟩ := a1
   obtain ⟨cs, e, b3⟩ := b1
   exact ⟨cs, e, RL.cut a3 hf b3⟩
theorem VR.cut {tx : Tx} {s1 s : Sg} {h : Sh} {c nx : Nat} {v1 v : Value} (h1 : VR tx s1 h c v1) (hf : ∀ i, nx ≤ i → i < GH → s1 i = none) (k : VR tx s h c v) : VR tx (Go.Proofs.YtehpobojopmilaaGreat.Ev.cut s nx) h c v := by
 cases h with
 | c => exact RC.cut h1 hf _ _ k
 | g n =>
  obtain ⟨cs1, _, a3⟩ := h1
  obtain ⟨cs, e, b3⟩ := k
  exact ⟨cs, e, RL.cut a3 hf b3⟩
 | t l =>
  obtain ⟨cs1, _, a3⟩ := h1
  obtain ⟨cs, e, b3⟩ := k
  exact ⟨cs, e, TRl.cut hf l _ _ _ a3 b3⟩
 | b _ => exact k
 | a _ => exact k
theorem Cl.cut {tx : Tx} {s1 s : Sg} {h : Sh} {c nx : Nat} {v1 v : Value} (h1 : Cl tx s1 h c v1) (hf : ∀ i, nx ≤ i → i < GH → s1 i = none) (k : Cl tx s h c v) : Cl tx (Go.Proofs.YtehpobojopmilaaGreat.Ev.cut s nx) h c v := ⟨fun hc => VR.cut (h1.1 hc) hf (k.1 hc), k.2⟩
def cutX (nx : Nat) (Y : Loc → Vl) : Loc → Vl
 | .tm t => Y (.tm t)
 | .mt id => if id < nx then Y (.mt id) else .no
 | .cl id k => Y (.cl id k)
theorem call_pre {tx : Tx} {s : Sg} {Y : Loc → Vl} {w : World} (h : RelH tx s Y w) (nx : Nat) (hc : ∀ id n ty es ex, id < nx → Y (.mt id) = .mt n ty es ex → ∀ k c, k < n → Y (.cl id k) = .c c → CutOk tx nx c) : RelH tx (cut s nx) (cutX nx Y) w := by
 refine ⟨fun id n ty es ex hx => ?_, fun i j b q q' hi hj hsi hsj => ?_, fun i b q hs => ?_⟩
 ·
  by_cases e : id < nx
  · have hx : (if id < nx then Y (.mt id) else Vl.no) = .mt n ty es ex := hx
    rw [if_pos e] at hx
    obtain ⟨b, k, cs, g⟩ := h.bl id n ty es ex hx
    refine ⟨b, k, cs, (if_pos e).trans g.at_, g.blk, g.le, g.cap, g.one, g.exc, g.oc, fun i c hi hx' => ?_⟩
    obtain ⟨v, h1, h2⟩ := g.cl i c hi hx'
    exact ⟨v, h1, hc id n ty es ex e hx i c hi hx' _ _ h2⟩
  · have hx : (if id < nx then Y (.mt id) else Vl.no) = .mt n ty es ex := hx
    rw [if_neg e] at hx; cases hx
 ·
  have hi : (if i < nx then Y (.mt i) else Vl.no) ≠ .no := hi
  have hj : (if j < nx then Y (.mt j) else Vl.no) ≠ .no := hj
  have hsi : (if i < nx then s i else none) = some (b, q) := hsi
  have hsj : (if j < nx then s j else none) = some (b, q') := hsj
  by_cases e1 : i < nx <;> by_cases e2 : j < nx
  · rw [if_pos e1] at hi hsi; rw [if_pos e2] at hj hsj
    exact h.inj i j b q q' hi hj hsi hsj
  · rw [if_neg e2] at hsj; cases hsj
  · rw [if_neg e1] at hsi; cases hsi
  · rw [if_neg e1] at hsi; cases hsi
 · have hs : (if i < nx then s i else none) = some (b, q) := hs
   by_cases e1 : i < nx
   · rw [if_pos e1] at hs; exact h.lt _ _ _ hs
   · rw [if_neg e1] at hs; cases hs
def joinS (s s' : Sg) : Sg := fun i => match s i with | some x => some x | none => s' i
theorem call_post {tx : Tx} {s s' : Sg} {Y X' X'' : Loc → Vl} {w w' : World} {rs : List TI} {m m' : Me} {v : Nat} {u : Value} (h : RelH tx s Y w) (hfr : ∀ j, m.nx ≤ j → j < m'.nx → s j = none) (hnx : m.nx ≤ m'.nx) (hp : CallPost tx rs m v m' (cut s m.nx) (cutX m.nx Y) w s' X'' w' u) (hlg : ∀ q ∈ m'.lg, accI q < m.nx ∧ Y (.mt (accI q)) ≠ .no)
 {Z : Loc → Vl} (hz1 : ∀ id, id < m'.nx → Z (.mt id) = X'' (.mt id) ∧ ∀ n ty es ex, X'' (.mt id) = .mt n ty es ex → ∀ k, k < n → Z (.cl id k) = X'' (.cl id k)) (hz2 : ∀ id, m'.nx ≤ id → Z (.mt id) = Y (.mt id) ∧ ∀ k, Z (.cl id k) = Y (.cl id k)) :
 RelH tx (joinS s s') Z w' ∧ Trs (fun j => ∃ q ∈ m'.lg, accI q = j) (fun j => m.nx ≤ j ∧ j < m'.nx) s w (joinS s s') w' := by
 have hs1 : s.le (joinS s s') := fun i x hx => by unfold joinS; rw [hx]
 have hcut : ∀ i, i < m.nx → cut s m.nx i = s i := fun i hi => if_pos hi
 have hcut' : ∀ i, ¬ i < m.nx → cut s m.nx i = none := fun i hi => if_neg hi
 have hs2 : s'.le (joinS s s') := fun i x hx => by
  unfold joinS
  cases e : s i with
  | none => exact hx
  | some y =>
   rcases hp.tr.dom i x hx with h1 | ⟨_, h1, h2⟩
   · by_cases hi : i < m.nx
     · rw [hcut i hi, e] at h1; exact h1
     · rw [hcut' i hi] at h1; cases h1
   · rw [hfr i h1 h2] at e; cases e
 have hs3 : ∀ i, i < m'.nx → ∀ x, joinS s s' i = some x → s' i = some x := fun i hi x hx => by
  unfold joinS at hx
  cases e : s i with
  | none => rw [e] at hx; exact hx
  | some y =>
   rw [e] at hx
   by_cases hi2 : i < m.nx
   · exact hp.tr.le i x (by rw [hcut i hi2, e]; exact hx)
   · rw [hfr i (by omega) hi] at e; cases e
 have hs4 : ∀ i, m'.nx ≤ i → joinS s s' i = s i := fun i hi => by
  unfold joinS
  cases e : s i with
  | some y => rfl
  | none =>
   cases e2 : s' i with
   | none => rfl
   | some x =>
    rcases hp.tr.dom i x e2 with h1 | ⟨_, h1, h2⟩
    · rw [hcut' i (by omega)] at h1; cases h1
    · omega
 have hTr : Trs (fun j => ∃ q ∈ m'.lg, accI q = j) (fun j => m.nx ≤ j ∧ j < m'.nx) s w (joinS s s') w' := by
  refine ⟨hs1, fun i x hx => ?_, fun i b c hx h0 => ?_, hp.tr.os, hp.tr.tape, hp.tr.output, hp.tr.size, fun b hb hl => hp.tr.keep b hb fun i c hi hs => ?_⟩
  ·
   cases e : s i with
   | some y => left; rw [← hx, hs1 i y e]
   | none =>
    right
    have hx : s' i = some x := by unfold joinS at hx; rw [e] at hx; exact hx
    rcases hp.tr.dom i x hx with h1 | ⟨_, h1⟩
    · by_cases hi : i < m.nx
      · rw [hcut i hi, e] at h1; cases h1
      · rw [hcut' i hi] at h1; cases h1
    · exact ⟨rfl, h1⟩
  ·
   have hx : s' i = some (b, c) := by unfold joinS at hx; rw [h0] at hx; exact hx
   rcases hp.tr.new i b c hx (by unfold cut; split <;> first | exact h0 | rfl) with h1 | ⟨j, c', h1, h2⟩
   · exact .inl h1
   · refine .inr ⟨j, c', h1, ?_⟩
     by_cases hj : j < m.nx
     · rw [hcut j hj] at h2; exact h2
     · rw [hcut' j hj] at h2; cases h2
  · by_cases hj : i < m.nx
    · rw [hcut i hj] at hs; exact hl i c hi hs
    · rw [hcut' i hj] at hs; cases hs
 refine ⟨⟨fun id n ty es ex hx => ?_, fun i j b q q' hi hj hsi hsj => ?_, fun i b q hs => ?_⟩, hTr⟩
 ·
  by_cases hid : id < m'.nx
  · obtain ⟨h1, h2⟩ := hz1 id hid
    rw [h1] at hx
    obtain ⟨b, k, cs, g⟩ := hp.rel.bl id n ty es ex hx
    exact ⟨b, k, cs, g.mono hs2 rfl fun i c hi hx' => by rw [h2 n ty es ex hx i hi] at hx'; exact hx'⟩
  ·
   obtain ⟨h1, h2⟩ := hz2 id (by omega)
   rw [h1] at hx
   obtain ⟨b, k, cs, g⟩ := h.bl id n ty es ex hx
   refine ⟨b, k, cs, g.mono hs1 (hTr.keep b (h.lt _ _ _ g.at_) fun i c hi hs => ?_) fun i c _ hx' => by rw [h2] at hx'; exact hx'⟩
   obtain ⟨q, hq, e⟩ := hi
   obtain ⟨g1, g2⟩ := hlg q hq
   rw [e] at g1 g2
   have := h.inj i id b c k g2 (by rw [hx]; intro h; cases h) hs g.at_
   omega
 ·
  have key : ∀ i j, i < m'.nx → ¬ j < m'.nx → Z (.mt i) ≠ .no → Z (.mt j) ≠ .no → ∀ b q q', joinS s s' i = some (b, q) → joinS s s' j = some (b, q') → False := fun i j h1 h2 hi hj b q q' hsi hsj => by
   rw [hs4 j (by omega)] at hsj
   rw [(hz2 j (by omega)).1] at hj
   rw [(hz1 i h1).1] at hi
   cases e : s i with
   | some y =>
    have : y = (b, q) := by have := hs1 i y e; rw [hsi] at this; exact (Option.some.inj this).symm
    subst this
    have hin : i < m.nx := by
     by_cases hi2 : i < m.nx
     · exact hi2
     · rw [hfr i (by omega) h1] at e; cases e
    have hYi : Y (.mt i) ≠ .no := by
     rcases hp.mt i hin with h3 | ⟨h3, _⟩
     · rw [h3] at hi
       have hi : (if i < m.nx then Y (.mt i) else Vl.no) ≠ .no := hi
       rw [if_pos hin] at hi; exact hi
     · exact absurd h3 hi
    have := h.inj i j b q q' hYi hj e hsj
    omega
   | none =>
    rcases hTr.new i b q hsi e with h3 | ⟨j0, c', ⟨q0, hq, e0⟩, h4⟩
    · have := h.lt j b q' hsj; omega
    · obtain ⟨g1, g2⟩ := hlg q0 hq
      rw [e0] at g1 g2
      have := h.inj j0 j b c' q' g2 hj h4 hsj
      omega
  by_cases h1 : i < m'.nx <;> by_cases h2 : j < m'.nx
  · rw [(hz1 i h1).1] at hi; rw [(hz1 j h2).1] at hj
    exact hp.rel.inj i j b q q' hi hj (hs3 i h1 _ hsi) (hs3 j h2 _ hsj)
  · exact (key i j h1 h2 hi hj b q q' hsi hsj).elim
  · exact (key j i h2 h1 hj hi b q' q hsj hsi).elim
  · rw [hs4 i (by omega)] at hsi; rw [hs4 j (by omega)] at hsj
    rw [(hz2 i (by omega)).1] at hi; rw [(hz2 j (by omega)).1] at hj
    exact h.inj i j b q q' hi hj hsi hsj
 ·
  have := hp.tr.size
  cases e : s i with
  | some y =>
   have h1 := hs1 i y e
   rw [hs] at h1; cases h1
   have := h.lt i b q e
   omega
  | none =>
   have hs : s' i = some (b, q) := by unfold joinS at hs; rw [e] at hs; exact hs
   exact hp.rel.lt i b q hs
end Go.Proofs.YtehpobojopmilaaGreat.Ev
namespace Go.Proofs.YtehpobojopmilaaGreat.Ev
set_option linter.unusedVariables false
set_option linter.unusedSimpArgs false
open Go
set_option maxRecDepth 4000
section
variable {P : Program} {TY : T TI} {tx : Tx} {nt N : Nat} {L : T Ly} {A : List Al} {G : Option (Nat × Bool)} {fr : Nat} {hs : Sh} {ld : Bool} {X : Loc → Vl}
theorem args_cel : ∀ (l : List (Od × Nat)) (os : List Operand) (ts : List TI) (p : Nat), cArgs tx L A G os ts p = some l → (∀ x ∈ l, True) → (∀ (o : Operand) (x : OdS), o ∈ os → cOd tx L A G o = some x → x.o fr < 2 ^ (72 * x.h.sz)) → (∀ t ∈ ts, (shOf t).sz = t.sz) →
 (∀ q, q < 72 * p → (args fr l).testBit q = false) ∧ (∀ (s : Sg) (ρ : Operand → Value), (∀ o ∈ os, ∀ x, cOd tx L A G o = some x → Cl tx s x.h (x.o fr) (ρ o)) → ∀ a : Nat, (∀ q, 72 * p ≤ q → a.testBit q = (args fr l).testBit q) → ArgsAre tx s ts p a (os.map ρ))
 | l, [], [], p, h, _, _, _ => by
  rw [cArgs] at h
  cases h
  exact ⟨fun q _ => Nat.zero_testBit q, fun s ρ _ a ha => ⟨rfl, Nat.lt_pow_two_of_testBit a fun q hq => by rw [ha q hq]; exact Nat.zero_testBit q⟩⟩
 | l, o :: os, t :: ts, p, h, _, hb, ht => by
  rw [cArgs] at h
  obtain ⟨x, hx, h1, h⟩ := bod_some h
  obtain ⟨h2, h⟩ := iff_some h
  obtain ⟨l', h3, h⟩ := bnd_some h
  simp only [str_eq] at h
  cases h
  have h2 := shEq_eq h2
  have hsz : x fr < 2 ^ (72 * t.sz) := by
   have := hb o _ List.mem_cons_self h1
   simp only at this
   rw [h2, ht t List.mem_cons_self] at this
   exact this
  obtain ⟨ih1, ih2⟩ := args_cel l' os ts (p + t.sz) h3 (fun _ _ => trivial) (fun o' x' ho' => hb o' x' (List.mem_cons_of_mem _ ho')) (fun t' ht' => ht t' (List.mem_cons_of_mem _ ht'))
  have hbit : ∀ q, (args fr ((x, 72 * p) :: l')).testBit q = ((decide (72 * p ≤ q) && (x fr).testBit (q - 72 * p)) || (args fr l').testBit q) := fun q => by
   show ((x fr <<< (72 * p)) ||| args fr l').testBit q = _
   rw [Nat.testBit_or, Nat.testBit_shiftLeft]
  refine ⟨fun q hq => ?_, fun s ρ hρ a ha => ?_⟩
  · show (args fr ((x, 72 * p) :: l')).testBit q = false
    rw [hbit, ih1 q (by omega)]
    have : ¬ 72 * p ≤ q := by omega
    simp [this]
  ·
   refine ⟨ρ o, os.map ρ, rfl, ?_, ih2 s ρ (fun o' ho' => hρ o' (List.mem_cons_of_mem _ ho')) a fun q hq => ?_⟩
   ·
    have e : spn a (72 * p) (mk t.sz) = x fr := by
     apply Nat.eq_of_testBit_eq
     intro q
     rw [spn_eq, Nat.testBit_mod_two_pow, Nat.testBit_shiftRight]
     by_cases hq : q < 72 * t.sz
     · have h4 : a.testBit (72 * p + q) = (args fr ((x, 72 * p) :: l')).testBit (72 * p + q) := ha (72 * p + q) (by omega)
       rw [h4, hbit, ih1 (72 * p + q) (by omega)]
       have h5 : 72 * p ≤ 72 * p + q := by omega
       simp [hq, h5]
     · rw [Nat.testBit_lt_two_pow (x := x fr) (Nat.lt_of_lt_of_le hsz (Nat.pow_le_pow_right (by omega) (by omega)))]
       simp [hq]
    rw [e, ← h2]
    exact hρ o List.mem_cons_self _ h1
   · have h4 : a.testBit q = (args fr ((x, 72 * p) :: l')).testBit q := ha q (by omega)
     rw [h4, hbit]
     rw [Nat.testBit_lt_two_pow (x := x fr) (i := q - 72 * p) (Nat.lt_of_lt_of_le hsz (Nat.pow_le_pow_right (by omega) (by omega)))]
     simp
 | l, [], t :: ts, p, h, _, _, _ => by simp [cArgs] at h
 | l, o :: os, [], p, h, _, _, _ => by simp [cArgs] at h
theorem arg1_bit {l : List (Od × Nat)} {q : Nat} (hq : 72 ≤ q) : (arg1 fr l).testBit q = (args fr l).testBit q := by
 show ((args fr l) ||| ((Nat.mul (Nat.land fr 18446744073709551615) 1442695040888963407) &&& (2 ^ 64 - 1))).testBit q = _
 rw [Nat.testBit_or, Nat.and_two_pow_sub_one_eq_mod, Nat.testBit_mod_two_pow]
 have : ¬ q < 64 := by omega
 simp [this]
theorem ArgsAre.cut {s s1 : Sg} {nx : Nat} (hf : ∀ i, nx ≤ i → i < GH → s1 i = none) : ∀ (ts : List TI) (p a : Nat) (vs1 vs : List Value), ArgsAre tx s1 ts p a vs1 → ArgsAre tx s ts p a vs → ArgsAre tx (Go.Proofs.YtehpobojopmilaaGreat.Ev.cut s nx) ts p a vs
 | [], p, a, vs1, vs, _, h => h
 | t :: ts, p, a, vs1, vs, h1, h => by
  obtain ⟨v1, vs1', _, a1, a2⟩ := h1
  obtain ⟨v, vs', rfl, b1, b2⟩ := h
  exact ⟨v, vs', rfl, Cl.cut a1 hf b1, ArgsAre.cut hf ts _ a _ _ a2 b2⟩
theorem shOf_sz (hT : ∀ t ti, TY.get t = some ti → tiOf P t = some ti) {t : TypeId} {ti : TI} (h : TY.get t = some ti) : (shOf ti).sz = ti.sz := by
 have h1 := hT t ti h
 unfold tiOf at h1
 obtain ⟨i, _, h1⟩ := bnd_some h1
 obtain ⟨d, _, h1⟩ := bnd_some h1
 obtain ⟨k, _, h1⟩ := bnd_some h1
 cases k with
 | tu l =>
  obtain ⟨_, h1⟩ := iff_some h1
  cases h1; rfl
 | st fs =>
  obtain ⟨z, _, h1⟩ := bnd_some h1
  obtain ⟨_, h1⟩ := iff_some h1
  obtain ⟨_, h1⟩ := iff_some h1
  obtain ⟨c, _, h1⟩ := bnd_some h1
  simp only [str_eq] at h1
  obtain ⟨_, h1⟩ := iff_some h1
  cases h1; rfl
 | _ =>
  obtain ⟨z, _, h1⟩ := bnd_some h1
  obtain ⟨_, h1⟩ := iff_some h1
  obtain ⟨_, h1⟩ := iff_some h1
  obtain ⟨_, h1⟩ := iff_some h1
  obtain ⟨c, _, h1⟩ := bnd_some h1
  simp only [str_eq] at h1
  cases h1; rfl
theorem cTys_sz (hT : ∀ t ti, TY.get t = some ti → tiOf P t = some ti) : ∀ (l : List TypeId) (ts : List TI), cTys TY l = some ts → ∀ t ∈ ts, (shOf t).sz = t.sz
 | [], ts, h, t, ht => by rw [cTys] at h; cases h; cases ht
 | x :: l, ts, h, t, ht => by
  rw [cTys] at h
  obtain ⟨i, h1, h⟩ := bnd_some h
  obtain ⟨r, h2, h⟩ := bnd_some h
  cases h
  rcases List.mem_cons.1 ht with rfl | ht
  · exact shOf_sz hT h1
  · exact cTys_sz hT l r h2 t ht
def clR (nx : Nat) : Loc → Prop
 | .tm _ => False
 | .mt id => id < nx
 | .cl id _ => id < nx
def clW (lg : List Nat) (nx nx' : Nat) : Loc → Prop
 | .tm _ => False
 | .mt id => acc id 0 4095 ∈ lg ∨ (nx ≤ id ∧ id < nx')
 | .cl id k => (∃ q ∈ lg, cov q (.cl id k)) ∨ (nx ≤ id ∧ id < nx')
theorem run_enter {f : FuncId} {fn : Func} {c : Code} (hf : P.funcs[f]? = some fn) (hname : (fn.name == "runtime.NumGoroutine") = false) (hb : fn.body = some c) (args : Array Value) (w : World) : (callFunc f args).run P w = .ok (.enter f args) w := by
 have h1 : fn.name ≠ "runtime.NumGoroutine" := by simpa using hname
 simp [callFunc, hf, h1, hb]
theorem cl_pre (hT : ∀ t ti, TY.get t = some ti → tiOf P t = some ti) {op : Op} {g γ : Nat} {l : List (Od × Nat)} {m : Me} (h0 : cOp P TY tx L A G ld op = some ⟨.call g l, hs⟩) (hH : HeapIs X m.h m.nx) (hl : Live tx nt N X m.nx γ)
 (hcl : ∀ x, x ∈ op.operands → ∀ y, cOd tx L A G x = some y → OpdIs tx X x y.h (y.o fr)) : CallPre P tx TY g (arg1 fr l) ⟨m.h, m.nx, []⟩ := by
 have hk : isCall op := cOp_kd op _ h0
 cases op with
 | call c =>
  obtain ⟨g', hc⟩ : ∃ g, c.callee = .value (.func g) := hk
  rw [cOp] at h0
  unfold cCall at h0
  rw [hc] at h0
  simp only at h0
  obtain ⟨fn, c1, h0⟩ := bnd_some h0
  obtain ⟨ts, c2, h0⟩ := bnd_some h0
  obtain ⟨rs, c3, h0⟩ := bnd_some h0
  obtain ⟨l', c4, h0⟩ := bnd_some h0
  have h0 := Option.some.inj h0
  cases h0
  have hargs : ∀ o ∈ c.args.toList, o ∈ (Op.call c).operands := fun o ho => by
   simp only [Op.operands, Call.operands, hc]
   simp
   right
   simpa using ho
  obtain ⟨s1, a1, w1, r1, f1, f2⟩ := hl
  have hlt : ∀ (o : Operand) (x : OdS), o ∈ c.args.toList → cOd tx L A G o = some x → x.o fr < 2 ^ (72 * x.h.sz) := fun o x ho hx => opd_lt ⟨s1, a1, w1, r1⟩ (hcl o (hargs o ho) x hx)
  obtain ⟨_, b2⟩ := args_cel l c.args.toList ts 1 c4 (fun _ _ => trivial) hlt (cTys_sz hT _ _ c2)
  have hA1 : ArgsAre tx s1 ts 1 (arg1 fr l) (c.args.toList.map a1.eval) := b2 s1 a1.eval (fun o ho x hx => opd_cl r1 (fun _ _ => rfl) (hcl o (hargs o ho) x hx)) _ fun q hq => arg1_bit (by omega)
  refine ⟨fn, ts, cut s1 m.nx, cutX m.nx X, w1, c.args.map a1.eval, c1, c2, ⟨fun id bk hb => ?_, fun id hid hb => ?_, hH.nx⟩, call_pre r1.h m.nx fun id n ty es ex hid hm k c hk hx => ?_, fun i hi => if_neg (by have hi : m.nx ≤ i := hi; omega), ?_⟩
  · obtain ⟨g1, g2⟩ := hH.at_ id bk hb
    exact ⟨g1, (if_pos g1).trans g2.mt, g2.cl, g2.n, g2.lt⟩
  · exact (if_pos hid).trans (hH.no id hid hb)
  · obtain ⟨b, q, cs, g⟩ := r1.h.bl id n ty es ex hm
    obtain ⟨v, _, h2⟩ := g.cl k c hk hx
    exact RC.cut h2 f1
  · have := ArgsAre.cut f1 ts 1 (arg1 fr l) _ _ hA1 hA1
    simpa using this
 | _ => exact hk.elim
def ClOk (P : Program) (tx : Tx) (nt : Nat) (L : T Ly) (A : List Al) (G : Option (Nat × Bool)) (fr : Nat) (X : Loc → Vl) (op : Op) (hs : Sh) (v nx : Nat) (m' : Me) (Xc : Loc → Vl) : Prop :=
 ∀ (ops : Array Oper) (i : Nat) (o : Oper) (X' : Loc → Vl) (Q : Exit → Act → World → Prop), ops[i]? = some o → o.op = op → o.guard = G → GdOn ops X o.guard → (∀ x, x ∈ o.op.operands → ∀ y, cOd tx L A G x = some y → OpdIs tx X x y.h (y.o fr)) → (∀ d, o.dst = some d → d < nt ∧ X' (.tm d) = .v hs v) →
  (∀ id, id < m'.nx → X' (.mt id) = Xc (.mt id) ∧ ∀ k, X' (.cl id k) = Xc (.cl id k)) →
  StpOk (Rel tx nt) P ops Q i X X' ⟨fun l => RT ops o l ∨ clR nx l, fun l => wD o.dst l ∨ clW m'.lg nx m'.nx l, fun j => ∃ q ∈ m'.lg, accI q = j, fun j => nx ≤ j ∧ j < m'.nx⟩
theorem cl_ok (hT : ∀ t ti, TY.get t = some ti → tiOf P t = some ti) (hname : ∀ (f : FuncId) (fn : Func), P.funcs[f]? = some fn → (fn.name == "runtime.NumGoroutine") = false) {op : Op} {g v γ : Nat} {l : List (Od × Nat)} {m m' : Me} (h0 : cOp P TY tx L A G ld op = some ⟨.call g l, hs⟩) (hcall : CallOk P tx TY g (arg1 fr l) ⟨m.h, m.nx, []⟩ v m') (hH : HeapIs X m.h m.nx) (hl : Live tx nt N X m.nx γ)
 (hcl : ∀ x, x ∈ op.operands → ∀ y, cOd tx L A G x = some y → OpdIs tx X x y.h (y.o fr)) :
 m.nx ≤ m'.nx ∧ (∀ q ∈ m'.lg, accI q < m.nx ∧ X (.mt (accI q)) ≠ .no) ∧ m'.nx ≤ 1000001 ∧ ∃ Xc : Loc → Vl, HeapIs Xc m'.h m'.nx ∧ (∀ id, id < m.nx → Xc (.mt id) = X (.mt id) ∨ (Xc (.mt id) = .no ∧ acc id 0 4095 ∈ m'.lg)) ∧ (∀ id k, id < m.nx → Xc (.cl id k) = X (.cl id k) ∨ ∃ q ∈ m'.lg, cov q (.cl id k)) ∧ ClOk P tx nt L A G fr X op hs v m.nx m' Xc := by
 have hk : isCall op := cOp_kd op _ h0
 cases op with
 | call c =>
  obtain ⟨g', hc⟩ : ∃ g, c.callee = .value (.func g) := hk
  rw [cOp] at h0
  unfold cCall at h0
  rw [hc] at h0
  simp only at h0
  obtain ⟨fn, c1, h0⟩ := bnd_some h0
  obtain ⟨ts, c2, h0⟩ := bnd_some h0
  obtain ⟨rs, c3, h0⟩ := bnd_some h0
  obtain ⟨l', c4, h0⟩ := bnd_some h0
  have h0 := Option.some.inj h0
  cases h0
  obtain ⟨fn', cd, d1, d2, d3⟩ := hcall.run
  rw [c1] at d1; cases d1
  have d3 := d3 ts rs c2 c3
  have hargs : ∀ o ∈ c.args.toList, o ∈ (Op.call c).operands := fun o ho => by
   simp only [Op.operands, Call.operands, hc]
   simp
   right
   simpa using ho
  obtain ⟨s1, a1, w1, r1, f1, f2⟩ := hl
  have hlt : ∀ (o : Operand) (x : OdS), o ∈ c.args.toList → cOd tx L A G o = some x → x.o fr < 2 ^ (72 * x.h.sz) := fun o x ho hx => opd_lt ⟨s1, a1, w1, r1⟩ (hcl o (hargs o ho) x hx)
  obtain ⟨_, b2⟩ := args_cel l c.args.toList ts 1 c4 (fun _ _ => trivial) hlt (cTys_sz hT _ _ c2)
  have hA1 : ArgsAre tx s1 ts 1 (arg1 fr l) (c.args.toList.map a1.eval) := b2 s1 a1.eval (fun o ho x hx => opd_cl r1 (fun _ _ => rfl) (hcl o (hargs o ho) x hx)) _ fun q hq => arg1_bit (by omega)
  have hcutc : ∀ id n ty es ex, id < m.nx → X (.mt id) = .mt n ty es ex → ∀ k c, k < n → X (.cl id k) = .c c → CutOk tx m.nx c := fun id n ty es ex hid hm k c hk hx => by
   obtain ⟨b, q, cs, g⟩ := r1.h.bl id n ty es ex hm
   obtain ⟨v, _, h2⟩ := g.cl k c hk hx
   exact RC.cut h2 f1
  -- whatever state
  have call : ∀ (s : Sg) (Y : Loc → Vl) (a : Act) (w : World), (∀ l, clR m.nx l → Y l = X l) → (∀ t, Operand.tmp t ∈ (Op.call c).operands → Y (.tm t) = X (.tm t)) → Rel tx nt s Y a w →
   (∀ q ∈ m'.lg, accI q < m.nx ∧ cutX m.nx Y (.mt (accI q)) ≠ .no) ∧ m'.nx ≤ 1000001 ∧ Calls P g (c.args.map a.eval) w fun e w' => ∃ s' X' u, e = .returned u ∧ CallPost tx rs ⟨m.h, m.nx, []⟩ v m' (cut s m.nx) (cutX m.nx Y) w s' X' w' u := fun s Y a w hY hYt hr => by
   refine d3 (cut s m.nx) (cutX m.nx Y) w (c.args.map a.eval) ⟨fun id bk hb => ?_, fun id hid hb => ?_, hH.nx⟩ (call_pre hr.h m.nx fun id n ty es ex hid hm k c hk hx => hcutc id n ty es ex hid (by rw [← hY (.mt id) hid]; exact hm) k c hk (by rw [← hY (.cl id k) hid]; exact hx)) (fun i hi => if_neg (by have hi : m.nx ≤ i := hi; omega)) ?_
   · obtain ⟨g1, g2⟩ := hH.at_ id bk hb
     exact ⟨g1, by show (if id < m.nx then Y (.mt id) else Vl.no) = _; rw [if_pos g1, hY (.mt id) g1]; exact g2.mt, fun i hi => by show Y (.cl id i) = _; rw [hY (.cl id i) g1]; exact g2.cl i hi, g2.n, g2.lt⟩
   · show (if id < m.nx then Y (.mt id) else Vl.no) = _
     have hid : id < m.nx := hid
     rw [if_pos hid, hY (.mt id) hid]; exact hH.no id hid hb
   · have hA : ArgsAre tx s ts 1 (arg1 fr l) (c.args.toList.map a.eval) := b2 s a.eval (fun o ho x hx => opd_cl hr (fun t e => hYt t (e ▸ hargs o ho)) (hcl o (hargs o ho) x hx)) _ fun q hq => arg1_bit (by omega)
     have := ArgsAre.cut f1 ts 1 (arg1 fr l) _ _ hA1 hA
     simpa using this
  obtain ⟨e1, e2, e3⟩ := call s1 X a1 w1 (fun _ _ => rfl) (fun _ _ => rfl) r1
  obtain ⟨e, w2, _, ⟨s2, X2, u2, _, hp2⟩, _⟩ := e3 []
  have elg : ∀ q ∈ m'.lg, accI q < m.nx ∧ X (.mt (accI q)) ≠ .no := fun q hq => by
   obtain ⟨g1, g2⟩ := e1 q hq
   have g2 : (if accI q < m.nx then X (.mt (accI q)) else Vl.no) ≠ .no := g2
   rw [if_pos g1] at g2
   exact ⟨g1, g2⟩
  refine ⟨hcall.nx, elg, e2, X2, hp2.heap, fun id hid => ?_, fun id k hid => hp2.cl id k hid, fun ops i o X' Q ho hop hG hgd hcl' hd hz => ?_⟩
  · have := hp2.mt id hid
    have e : cutX m.nx X (.mt id) = X (.mt id) := if_pos hid
    rw [e] at this; exact this
  ·
   refine stp_on (p := ⟨fun l => RT ops o l ∨ clR m.nx l, fun l => wD o.dst l ∨ clW m'.lg m.nx m'.nx l, fun j => ∃ q ∈ m'.lg, accI q = j, fun j => m.nx ≤ j ∧ j < m'.nx⟩) ho hgd (fun _ h => .inl h) fun s Y a w hY hr hf K hK => ?_
   have hYh : ∀ l, clR m.nx l → Y l = X l := fun l hl => hY l (.inl (.inr hl))
   obtain ⟨_, _, k3⟩ := call s Y a w hYh (fun t ht => hY _ (.inl (.inl ⟨t, rfl, .inl (by rw [hop]; exact ht)⟩))) hr
   unfold Oper.wp
   have hrun : (execOp a.eval o).run P w = .ok (.enter g (c.args.map a.eval)) w := by
    unfold execOp
    rw [hop]
    simp only [resolve, hc, Deferred.ofValue, Act.eval, Sem.run_bind, Sem.run_pure, Result.andThen_ok, invoke]
    have := run_enter c1 (hname _ _ c1) d2 (c.args.map a.eval) w
    simpa using this
   rw [hrun]
   show Calls P g (c.args.map a.eval) w _
   refine Calls.mono k3 fun e w' hpost => ?_
   obtain ⟨s', X'', u, rfl, hp⟩ := hpost
   show K (a.put o.dst u) w'
   classical
   have hWn : ∀ l, over Y X' (fun l => wD o.dst l ∨ clW m'.lg m.nx m'.nx l) l = if wD o.dst l ∨ clW m'.lg m.nx m'.nx l then X' l else Y l := fun l => by
    by_cases h : wD o.dst l ∨ clW m'.lg m.nx m'.nx l
    · rw [if_pos h]; exact over_in (X := Y) (X' := X') (W := fun l => wD o.dst l ∨ clW m'.lg m.nx m'.nx l) h
    · rw [if_neg h]; exact over_out h
   have hwm : ∀ id, wD o.dst (.mt id) ↔ False := fun id => by cases o.dst <;> simp [wD]
   have hwc : ∀ id k, wD o.dst (.cl id k) ↔ False := fun id k => by cases o.dst <;> simp [wD]
   have hlgY : ∀ q ∈ m'.lg, accI q < m.nx ∧ Y (.mt (accI q)) ≠ .no := fun q hq => by
    obtain ⟨g1, g2⟩ := elg q hq
    exact ⟨g1, by rw [hYh (.mt (accI q)) g1]; exact g2⟩
   obtain ⟨hRH, hTr⟩ := call_post (X' := X') (m := ⟨m.h, m.nx, []⟩) (Z := over Y X' (fun l => wD o.dst l ∨ clW m'.lg m.nx m'.nx l)) hr.h (fun j h1 h2 => hf j ⟨h1, h2⟩) hcall.nx hp hlgY (fun id hid => by
       obtain ⟨x1, x2⟩ := hz id hid
       obtain ⟨y1, y2⟩ := heap_same hp2.heap hp.heap hid
       refine ⟨?_, fun n ty es ex hm k hk => ?_⟩
       · rw [hWn]
         by_cases hW : clW m'.lg m.nx m'.nx (.mt id)
         · rw [if_pos (.inr hW), x1, y1]
         · rw [if_neg (by rw [hwm]; rintro (h | h); exact h; exact hW h)]
           have hin : id < m.nx := by
             by_cases h : id < m.nx
             · exact h
             · exact absurd (.inr ⟨by omega, hid⟩) hW
           rcases hp.mt id hin with h | ⟨_, h⟩
           · rw [h]; exact (if_pos hin).symm
           · exact absurd (.inl h) hW
       · rw [hWn]
         by_cases hW : clW m'.lg m.nx m'.nx (.cl id k)
         · rw [if_pos (.inr hW), x2 k, y2 n ty es ex hm k hk]
         · rw [if_neg (by rw [hwc]; rintro (h | h); exact h; exact hW h)]
           have hin : id < m.nx := by
             by_cases h : id < m.nx
             · exact h
             · exact absurd (.inr ⟨by omega, hid⟩) hW
           rcases hp.cl id k hin with h | h
           · rw [h]; rfl
           · exact absurd (.inl h) hW) (fun id hid => by
       refine ⟨?_, fun k => ?_⟩
       · rw [hWn, if_neg]
         rw [hwm]
         rintro (h | h | h)
         · exact h
         · have := (elg _ h).1
           rw [(acc_all id).1] at this
           have := hcall.nx
           have : m.nx ≤ m'.nx := hcall.nx
           omega
         · omega
       · rw [hWn, if_neg]
         rw [hwc]
         rintro (h | ⟨q, hq, h⟩ | h)
         · exact h
         · have := (elg _ hq).1
           rw [h.1] at this
           have : m.nx ≤ m'.nx := hcall.nx
           omega
         · omega)
   refine hK (joinS s s') _ w' hTr (hr.mk' hTr.le hRH (fun t ht => ?_) fun d hd' => ⟨(hd d hd').1, ?_⟩)
   · refine over_out ?_
     rintro (h | h)
     · cases e : o.dst with
       | none => rw [e] at h; cases h
       | some d => rw [e] at h; cases h; exact ht e
     · exact h
   ·
    have e : over Y X' (fun l => wD o.dst l ∨ clW m'.lg m.nx m'.nx l) (.tm d) = X' (.tm d) := over_in (X := Y) (X' := X') (W := fun l => wD o.dst l ∨ clW m'.lg m.nx m'.nx l) (.inl (by rw [hd']; rfl))
    show TmIs tx _ (over Y X' (fun l => wD o.dst l ∨ clW m'.lg m.nx m'.nx l) (.tm d)) u
    rw [e, (hd d hd').2]
    have hv := hp.val.mono (s' := joinS s s') (fun i x hx => by
      unfold joinS
      cases e : s i with
      | none => exact hx
      | some y =>
        rcases hp.tr.dom i x hx with h1 | ⟨_, h1, h2⟩
        · by_cases hi : i < m.nx
          · rw [show cut s m.nx i = s i from if_pos hi, e] at h1; exact h1
          · rw [show cut s m.nx i = none from if_neg hi] at h1; cases h1
        · rw [hf i ⟨h1, h2⟩] at e; cases e)
    refine ⟨fun _ => hv, fun e h0 => ?_, hv.lt⟩
    rw [e] at hv
    exact absurd h0 (RC.ne hv)
 | _ => exact hk.elim
end
end Go.Proofs.YtehpobojopmilaaGreat.Ev
namespace Go.Proofs.YtehpobojopmilaaGreat.Ev
set_option linter.unusedVariables false
set_option linter.unusedSimpArgs false
open Go
set_option maxRecDepth 4000
structure HpOk (X0 : Loc → Vl) (bs : Nat) (m : Me) (X : Loc → Vl) : Prop where
 hp : HeapIs X m.h m.nx
 b : bs ≤ m.nx
 lg : ∀ q ∈ m.lg, accI q < bs ∧ X0 (.mt (accI q)) ≠ .no
 mt : ∀ id, id < bs → X (.mt id) = X0 (.mt id) ∨ (X (.mt id) = .no ∧ acc id 0 4095 ∈ m.lg)
 cl : ∀ id k, id < bs → X (.cl id k) = X0 (.cl id k) ∨ ∃ q ∈ m.lg, cov q (.cl id k)
theorem HpOk.same {X0 X X' : Loc → Vl} {bs : Nat} {m : Me} (h : HpOk X0 bs m X) (hm : ∀ id, id < GH → X' (.mt id) = X (.mt id)) (hc : ∀ id k, id < GH → X' (.cl id k) = X (.cl id k)) : HpOk X0 bs m X' := by
 have hnx := h.hp.nx
 have hb := h.b
 have lt : ∀ id, id < m.nx → id < GH := fun id hid => by unfold GH; omega
 refine ⟨⟨fun id bk e => ?_, fun id hid e => by rw [hm id (lt id hid)]; exact h.hp.no id hid e, hnx⟩, hb, h.lg, fun id hid => by rw [hm id (lt id (by omega))]; exact h.mt id hid, fun id k hid => by rw [hc id k (lt id (by omega))]; exact h.cl id k hid⟩
 obtain ⟨h1, h2⟩ := h.hp.at_ id bk e
 exact ⟨h1, by rw [hm id (lt id h1)]; exact h2.mt, fun i hi => by rw [hc id i (lt id h1)]; exact h2.cl i hi, h2.n, h2.lt⟩
def setT (X : Loc → Vl) (dst : Option Nat) (v : Vl) : Loc → Vl
 | .tm t => match dst with | some d => if t = d then v else X (.tm t) | none => X (.tm t)
 | l => X l
theorem setT_at {X : Loc → Vl} {d : Nat} {v : Vl} : setT X (some d) v (.tm d) = v := if_pos rfl
theorem setT_ne {X : Loc → Vl} {dst : Option Nat} {v : Vl} {t : Nat} (h : dst ≠ some t) : setT X dst v (.tm t) = X (.tm t) := by
 cases dst with
 | none => rfl
 | some d => exact if_neg (fun e => h (by rw [e]))
theorem setT_mt {X : Loc → Vl} {dst : Option Nat} {v : Vl} {i : Nat} : setT X dst v (.mt i) = X (.mt i) := rfl
theorem setT_cl {X : Loc → Vl} {dst : Option Nat} {v : Vl} {i k : Nat} : setT X dst v (.cl i k) = X (.cl i k) := rfl
theorem setT_out {X : Loc → Vl} {dst : Option Nat} {v : Vl} (l : Loc) (h : ¬ wD dst l) : setT X dst v l = X l := by
 cases l with
 | tm t => exact setT_ne fun e => h (by rw [e]; rfl)
 | _ => rfl
section
variable {P : Program} {tx : Tx} {nt N : Nat} {L : T Ly} {ops : Array Oper} {i : Nat} {X X' : Loc → Vl} {p : Stp Loc} {m m' : Me} {γ γ' : Nat} {x : Ix} {o : Oper}
structure RgOk (N : Nat) (m : Me) (γ : Nat) (m' : Me) (γ' : Nat) (x : Ix) : Prop where
 nx : m.nx ≤ m'.nx
 hi : m'.nx ≤ 1000001
 gl : γ ≤ γ'
 rg : x.r.a0 < x.r.a1 → x.r.a0 = m.nx ∧ x.r.a1 = m'.nx
 rc : x.r.cl = true → x.r.a0 = m.nx ∧ x.r.a1 = m'.nx
 gg : x.g0 < x.g1 → GH + γ * N ≤ x.g0 ∧ x.g1 ≤ GH + γ' * N
theorem fin_step (hst : ∀ Q, StpOk (Rel tx nt) P ops Q i X X' p) (hout : ∀ l, ¬ p.W l → X' l = X l) (hl : Live tx nt N X m.nx γ) (hx : RgOk N m γ m' γ' x)
 (hR : ∀ l, p.R l → x.R L N l ∨ x.W L N l) (hW : ∀ l, p.W l → x.W L N l) (hLn : ∀ j, p.L j → x.L j) (hN : ∀ j, p.N j → x.N j) :
 (∀ Q, StpOk (Rel tx nt) P ops Q i X X' (x.stp L N)) ∧ (∀ l, ¬ x.W L N l → X' l = X l) ∧ Live tx nt N X' m'.nx γ' := by
 have h1 : ∀ Q, StpOk (Rel tx nt) P ops Q i X X' (x.stp L N) := fun Q => StpOk.weak (hst Q) hR hW (fun l _ h => hout l h) hLn hN
 have h2 : ∀ l, ¬ x.W L N l → X' l = X l := fun l h => hout l fun h' => h (hW l h')
 refine ⟨h1, h2, live_step hl (h1 _) h2 (fun j hj => ?_) (fun j hj => ?_) hx.nx hx.gl⟩
 ·
  have hg := hx.hi
  rcases hj with ⟨g1, g2⟩ | ⟨g1, g2⟩
  · obtain ⟨e1, e2⟩ := hx.rg (by omega)
    exact .inl ⟨by omega, by unfold GH; omega⟩
  · obtain ⟨e1, e2⟩ := hx.gg (by omega)
    exact .inr (by omega)
 ·
  have hg := hx.hi
  rcases hj with ⟨g1, g2⟩ | ⟨g1, g2⟩
  · obtain ⟨e1, e2⟩ := hx.rg (by omega)
    refine ⟨by omega, ?_⟩
    unfold GH; omega
  · obtain ⟨e1, e2⟩ := hx.gg (by omega)
    refine ⟨?_, by omega⟩
    have : GH ≤ j := by omega
    omega
theorem opTm_mem : ∀ {l : List Operand} {t : Nat}, Operand.tmp t ∈ l → 2 * t ∈ opTm l
 | [], t, h => by cases h
 | .tmp q :: l, t, h => by
  rw [opTm]
  rcases List.mem_cons.1 h with h | h
  · cases h; exact List.mem_cons_self
  · exact List.mem_cons_of_mem _ (opTm_mem h)
 | .const v :: l, t, h => by
  rw [opTm]
  rcases List.mem_cons.1 h with h | h
  · cases h
  · exact opTm_mem h
  · intro t h; cases h
 | .global v :: l, t, h => by
  rw [opTm]
  rcases List.mem_cons.1 h with h | h
  · cases h
  · exact opTm_mem h
  · intro t h; cases h
 | .func v :: l, t, h => by
  rw [opTm]
  rcases List.mem_cons.1 h with h | h
  · cases h
  · exact opTm_mem h
  · intro t h; cases h
theorem appL_eq {α : Type} : ∀ (l r : List α), appL l r = l ++ r
 | [], r => rfl
 | x :: l, r => by
  show x :: appL l r = x :: (l ++ r)
  rw [appL_eq l r]
theorem rngL_mem {p : Nat} : ∀ (n j : Nat), j < n → 2 * (p + j) + 1 ∈ rngL p n
 | 0, j, h => by omega
 | n + 1, j, h => by
  have e : rngL p (n + 1) = (2 * (p + n) + 1) :: rngL p n := rfl
  rw [e]
  by_cases h' : j = n
  · subst h'; exact List.mem_cons_self
  · exact List.mem_cons_of_mem _ (rngL_mem n j (by omega))
theorem tm_r {an : Nat} {rd wr : List Nat} {l : Loc} (h : RT ops o l) : ∃ t, l = .tm t ∧ 2 * t ∈ (tmOf ops.toList o i an rd wr).r := by
 obtain ⟨t, rfl, h⟩ := h
 refine ⟨t, rfl, ?_⟩
 show 2 * t ∈ appL rd (appL (opTm o.op.operands.toList) (gdTm ops.toList o.guard))
 rw [appL_eq, appL_eq]
 refine List.mem_append_right _ ?_
 rcases h with h | ⟨j, v, h1, h2⟩
 · exact List.mem_append_left _ (opTm_mem (Array.mem_toList_iff.2 h))
 ·
  refine List.mem_append_right _ ?_
  rw [h1]
  show 2 * t ∈ (Option.rec [] (fun oj : Oper => Option.rec [] (fun d => [Nat.mul 2 d]) oj.dst) (nth ops.toList j) : List Nat)
  rw [nth_eq, Array.getElem?_toList]
  cases e : ops[j]? with
  | none => rw [e] at h2; cases h2
  | some oj =>
   rw [e] at h2
   have h2 : oj.dst = some t := h2
   show 2 * t ∈ (Option.rec [] (fun d => [Nat.mul 2 d]) oj.dst : List Nat)
   rw [h2]
   exact List.mem_singleton.2 rfl
theorem tm_w {an : Nat} {rd wr : List Nat} {l : Loc} (h : wD o.dst l) : ∃ t, l = .tm t ∧ 2 * t ∈ (tmOf ops.toList o i an rd wr).w := by
 cases e : o.dst with
 | none => rw [e] at h; cases h
 | some d =>
  rw [e] at h
  refine ⟨d, h, ?_⟩
  show 2 * d ∈ appL wr (Option.rec [] (fun d => [Nat.mul 2 d]) o.dst)
  rw [appL_eq, e]
  exact List.mem_append_right _ (List.mem_singleton.2 rfl)
theorem own_r {an : Nat} {rd wr : List Nat} {q : Nat} (h : q ∈ rd) : q ∈ (tmOf ops.toList o i an rd wr).r := by
 show q ∈ appL rd _
 rw [appL_eq]; exact List.mem_append_left _ h
theorem own_w {an : Nat} {rd wr : List Nat} {q : Nat} (h : q ∈ wr) : q ∈ (tmOf ops.toList o i an rd wr).w := by
 show q ∈ appL wr _
 rw [appL_eq]; exact List.mem_append_left _ h
theorem rt_in {an : Nat} {rd wr : List Nat} {r : Rec} {g0 g1 : Nat} {l : Loc} (h : RT ops o l) : Ix.R L N ⟨tmOf ops.toList o i an rd wr, r, g0, g1⟩ l := by
 obtain ⟨t, e, h2⟩ := tm_r (i := i) (an := an) (rd := rd) (wr := wr) h
 subst e
 exact h2
theorem wd_in {an : Nat} {rd wr : List Nat} {r : Rec} {g0 g1 : Nat} {l : Loc} (h : wD o.dst l) : Ix.W L N ⟨tmOf ops.toList o i an rd wr, r, g0, g1⟩ l := by
 obtain ⟨t, e, h2⟩ := tm_w (ops := ops) (i := i) (an := an) (rd := rd) (wr := wr) h
 subst e
 exact h2
def rec0 (i : Nat) : Rec := ⟨i, 0, [], [], 0, 0, false⟩
theorem ix0 {τ : Tm} : IxOk L N ⟨τ, rec0 i, GH, GH⟩ := ⟨fun q h => (by cases h), fun _ q h => (by cases h), fun h => (by cases h), fun h => (by cases h), Nat.zero_le _, Nat.le_refl _, fun g h1 h2 => absurd (Nat.lt_of_le_of_lt h1 h2) (Nat.lt_irrefl GH)⟩
theorem rg0 {τ : Tm} (h : m.nx ≤ 1000001) : RgOk N m γ m γ ⟨τ, rec0 i, GH, GH⟩ := ⟨Nat.le_refl _, h, Nat.le_refl _, fun h => (by cases h), fun h => (by cases h), fun h => absurd h (Nat.lt_irrefl GH)⟩
theorem kp_lt (i s : Nat) : slt i s < 2 ^ 40 := by
 unfold slt
 have : (1099511627775 : Nat) = 2 ^ 40 - 1 := rfl
 rw [this, land_mod]
 exact Nat.mod_lt _ (by omega)
theorem pl_eq (N p sz i : Nat) : pl N p sz i = some ⟨72 * p, kp N p sz, slt i (72 * p)⟩ := by
 unfold pl
 rw [str_eq, str_eq, str_eq]
 rfl
theorem dst_put {fr v : Nat} {h : Sh} {A : List Al} {d : Pl} {dst : Option Nat} (hL : LyOk L N) (hN1 : 1 ≤ N) (hF : FrOk L N fr X) (hA : ∀ a ∈ A, AliOk ops tx L fr X a) (hc : cDst nt N L dst h i = some d) (hb : ∀ t, dst = some t → ∀ k, h ≠ .b k)
 (ht : ∀ t, dst ≠ some t → X' (.tm t) = X (.tm t)) (hm : ∀ g, GH ≤ g → X' (.mt g) = X (.mt g)) (hcl : ∀ g i, GH ≤ g → X' (.cl g i) = X (.cl g i)) (hv : ∀ d, dst = some d → X' (.tm d) = .v h v) (hlt : ∀ d, dst = some d → v < 2 ^ (72 * h.sz)) :
 FrOk L N (putF fr d.s d.nm d.k v) X' ∧ (∀ a ∈ alNew L dst (alOff ops.toList dst A), AliOk ops tx L (putF fr d.s d.nm d.k v) X' a) ∧ ∀ D, NZ L fr D → NZ L (putF fr d.s d.nm d.k v) D := by
 cases dst with
 | none =>
  have hc : pl N N 0 i = some d := hc
  rw [pl_eq] at hc
  have hc := Option.some.inj hc
  subst hc
  have := none_ok (fr' := putF fr (72 * N) (kp N N 0) (slt i (72 * N)) v) (X' := X') hL hF hA (put_none hN1 (kp_lt _ _)) (fun t => ht t (fun e => by cases e)) hm hcl
  exact this
 | some t =>
  obtain ⟨y, h1, hc⟩ := bnd_some (show bnd (L.get t) _ = some d from hc)
  obtain ⟨h2, hc⟩ := iff_some hc
  obtain ⟨h3, hc⟩ := iff_some hc
  rw [pl_eq] at hc
  have hc := Option.some.inj hc
  subst hc
  have h3 := shEq_eq h3
  subst h3
  obtain ⟨l1, l2⟩ := hL.le t y h1
  obtain ⟨g1, g2⟩ := put_agree (fr := fr) (k := slt i (72 * y.p)) l1 l2 (kp_lt _ _) (hlt t rfl)
  have hb := hb t rfl
  have := put_ok (X' := X') hL hF hA h1 hb g1 (spn_is (hlt t rfl) g2) (hv t rfl) (fun q hq => ht q fun e => hq (Option.some.inj e).symm) hm hcl
  have e : alNew L (some t) (alOff ops.toList (some t) A) = alOff ops.toList (some t) A := by
   unfold alNew
   show @Option.rec Ly (fun _ => List Al) _ _ (L.get t) = _
   rw [h1]
   obtain ⟨yp, yh⟩ := y
   cases yh with
   | b k => exact absurd rfl (hb k)
   | _ => rfl
  rw [e]
  exact this
theorem cDst_nt {h : Sh} {d : Pl} {dst : Option Nat} (hc : cDst nt N L dst h i = some d) : ∀ t, dst = some t → t < nt ∧ ∃ y, L.get t = some y ∧ y.h = h := by
 intro t e
 subst e
 obtain ⟨y, h1, hc⟩ := bnd_some (show bnd (L.get t) _ = some d from hc)
 obtain ⟨h2, hc⟩ := iff_some hc
 obtain ⟨h3, hc⟩ := iff_some hc
 exact ⟨ble_t h2, y, h1, shEq_eq h3⟩
theorem live_lt (hl : Live tx nt N X m.nx γ) {t c : Nat} {h : Sh} (hx : X (.tm t) = .v h c) : c < 2 ^ (72 * h.sz) := by
 obtain ⟨s, a, w, hr, _⟩ := hl
 have := hr.tm t
 rw [hx] at this
 exact this.2.2
end
end Go.Proofs.YtehpobojopmilaaGreat.Ev
namespace Go.Proofs.YtehpobojopmilaaGreat.Ev
set_option linter.unusedVariables false
set_option linter.unusedSimpArgs false
open Go
set_option maxRecDepth 4000
structure Pre (tx : Tx) (nt N : Nat) (L : T Ly) (ops : Array Oper) (X0 : Loc → Vl) (bs : Nat) (A : List Al) (fr : Nat) (m : Me) (γ : Nat) (X : Loc → Vl) : Prop where
 ly : LyOk L N
 n1 : 1 ≤ N
 fok : FrOk L N fr X
 al : ∀ a ∈ A, AliOk ops tx L fr X a
 hp : HpOk X0 bs m X
 live : Live tx nt N X m.nx γ
structure StepR (P : Program) (tx : Tx) (nt N : Nat) (L : T Ly) (ops : Array Oper) (X0 : Loc → Vl) (bs i : Nat) (fr : Nat) (m : Me) (γ : Nat) (X : Loc → Vl) (fr' : Nat) (m' : Me) (γ' : Nat) (X' : Loc → Vl) (A' : List Al) (Dm : List Nat → List Nat) (x : Ix) : Prop where
 st : ∀ Q, StpOk (Rel tx nt) P ops Q i X X' (x.stp L N)
 out : ∀ l, ¬ x.W L N l → X' l = X l
 rg : RgOk N m γ m' γ' x
 ix : IxOk L N x
 ri : x.r.i = i
 pre : Pre tx nt N L ops X0 bs A' fr' m' γ' X'
 nz : ∀ D, NZ L fr D → NZ L fr' (Dm D)
 lg : ∀ q, q ∈ m.lg → q ∈ m'.lg
 lw : ∀ q, q ∈ x.r.wr → bs ≤ accI q ∨ ∃ q', q' ∈ m'.lg ∧ accI q' = accI q
section
variable {P : Program} {TY : T TI} {tx : Tx} {nt N : Nat} {L : T Ly} {ops : Array Oper} {X0 : Loc → Vl} {bs i : Nat} {A : List Al} {fr : Nat} {m m' : Me} {γ : Nat} {X : Loc → Vl} {o : Oper} {an : Nat} {rd wr : List Nat}
theorem Pre.hi (h : Pre tx nt N L ops X0 bs A fr m γ X) : m.nx ≤ 1000001 := h.hp.hp.nx
theorem Pre.lt (h : Pre tx nt N L ops X0 bs A fr m γ X) {id : Nat} (hid : id < m.nx) : id < GH := by have := h.hi; unfold GH; omega
theorem step_dst (h : Pre tx nt N L ops X0 bs A fr m γ X) {hs : Sh} {r : Nat} {d : Pl} {p : Stp Loc} {rc : Rec} (hst : ∀ Q, StpOk (Rel tx nt) P ops Q i X (setT X o.dst (.v hs r)) p) (hpW : p.W = wD o.dst) (hpL : ∀ j, ¬ p.L j) (hpN : ∀ j, ¬ p.N j)
 (hc : cDst nt N L o.dst hs i = some d) (hb : ∀ t, o.dst = some t → ∀ k, hs ≠ .b k) (hR : ∀ l, p.R l → Ix.R L N ⟨tmOf ops.toList o i an rd wr, rc, GH, GH⟩ l) (hix : IxOk L N ⟨tmOf ops.toList o i an rd wr, rc, GH, GH⟩) (hri : rc.i = i) (h0 : rc.a0 = rc.a1) (hcl : rc.cl = false) (hwr : rc.wr = []) :
 StepR P tx nt N L ops X0 bs i fr m γ X (putF fr d.s d.nm d.k r) m γ (setT X o.dst (.v hs r)) (alNew L o.dst (alOff ops.toList o.dst A)) (fun D => D) ⟨tmOf ops.toList o i an rd wr, rc, GH, GH⟩ := by
 have hrg : RgOk N m γ m γ ⟨tmOf ops.toList o i an rd wr, rc, GH, GH⟩ := ⟨Nat.le_refl _, h.hi, Nat.le_refl _, fun h' => absurd h' (by show ¬ rc.a0 < rc.a1; omega), fun h' => (by have h' : rc.cl = true := h'; rw [hcl] at h'; cases h'), fun h' => absurd h' (Nat.lt_irrefl GH)⟩
 obtain ⟨f1, f2, f3⟩ := fin_step (L := L) hst (fun l hl => setT_out l (by rw [← hpW]; exact hl)) h.live hrg (fun l hl => .inl (hR l hl)) (fun l hl => wd_in (by rw [hpW] at hl; exact hl)) (fun j hj => absurd hj (hpL j)) (fun j hj => absurd hj (hpN j))
 obtain ⟨g1, g2, g3⟩ := dst_put (X' := setT X o.dst (.v hs r)) (v := r) h.ly h.n1 h.fok h.al hc hb (fun t ht => setT_ne ht) (fun _ _ => rfl) (fun _ _ _ => rfl) (fun t e => by rw [e]; exact setT_at) (fun t e => live_lt f3 (by rw [e]; exact setT_at))
 exact ⟨f1, f2, hrg, hix, hri, ⟨h.ly, h.n1, g1, g2, h.hp.same (fun _ _ => rfl) (fun _ _ _ => rfl), f3⟩, g3, fun _ h => h, fun q hq => (by have hq : q ∈ rc.wr := hq; rw [hwr] at hq; cases hq)⟩
theorem step_pure (h : Pre tx nt N L ops X0 bs A fr m γ X) {hs : Sh} {r : Nat} {d : Pl} (hst : ∀ Q, StpOk (Rel tx nt) P ops Q i X (setT X o.dst (.v hs r)) ⟨RT ops o, wD o.dst, fun _ => False, fun _ => False⟩) (hc : cDst nt N L o.dst hs i = some d) (hb : ∀ t, o.dst = some t → ∀ k, hs ≠ .b k) :
 StepR P tx nt N L ops X0 bs i fr m γ X (putF fr d.s d.nm d.k r) m γ (setT X o.dst (.v hs r)) (alNew L o.dst (alOff ops.toList o.dst A)) (fun D => D) ⟨tmOf ops.toList o i an rd wr, rec0 i, GH, GH⟩ :=
 step_dst h hst rfl (fun _ h => h) (fun _ h => h) hc hb (fun l hl => rt_in hl) ix0 rfl rfl rfl rfl
theorem step_read (h : Pre tx nt N L ops X0 bs A fr m γ X) {hs : Sh} {r id co n : Nat} {d : Pl} (hid : id < m.nx) (h1 : 1 ≤ n) (h2 : co + n ≤ 4095) (hst : ∀ Q, StpOk (Rel tx nt) P ops Q i X (setT X o.dst (.v hs r)) ⟨fun l => RT ops o l ∨ l = .mt id ∨ ∃ j, l = .cl id j ∧ co ≤ j ∧ j < co + n, wD o.dst, fun _ => False, fun _ => False⟩) (hc : cDst nt N L o.dst hs i = some d) (hb : ∀ t, o.dst = some t → ∀ k, hs ≠ .b k) :
 StepR P tx nt N L ops X0 bs i fr m γ X (putF fr d.s d.nm d.k r) m γ (setT X o.dst (.v hs r)) (alNew L o.dst (alOff ops.toList o.dst A)) (fun D => D) ⟨tmOf ops.toList o i an rd wr, ⟨i, an, [acc id co n], [], 0, 0, false⟩, GH, GH⟩ := by
 obtain ⟨a1, a2, a3⟩ := acc_ok (id := id) (co := co) (n := n) (by omega) (by omega)
 refine step_dst h hst rfl (fun _ h => h) (fun _ h => h) hc hb (fun l hl => ?_) ⟨fun q hq => ?_, fun _ q hq => (by cases hq), fun h => (by cases h), fun h => (by cases h), Nat.zero_le _, Nat.le_refl _, fun g h1 h2 => absurd (Nat.lt_of_le_of_lt h1 h2) (Nat.lt_irrefl GH)⟩ rfl rfl rfl rfl
 ·
  rcases hl with hl | hl | ⟨j, hl, h3, h4⟩
  · exact rt_in hl
  · subst hl
    exact .inl ⟨h.lt hid, .inl ⟨_, List.mem_singleton.2 rfl, a1⟩⟩
  · subst hl
    exact .inl ⟨h.lt hid, .inl ⟨_, List.mem_singleton.2 rfl, a1, by rw [a2]; exact h3, by rw [a2, a3]; exact h4⟩⟩
 · have hq := List.mem_singleton.1 hq
   subst hq
   rw [a2, a3]; exact ⟨h1, h2⟩
theorem step_keep (h : Pre tx nt N L ops X0 bs A fr m γ X) {r : Nat} {rdl : List Nat} {d : Pl} (hrd : ∀ q ∈ rdl, ∃ id, id < m.nx ∧ q = acc id 0 4095) (hst : ∀ Q, StpOk (Rel tx nt) P ops Q i X (setT X o.dst (.v .c r)) ⟨fun l => RT ops o l ∨ rdR rdl l, wD o.dst, fun _ => False, fun _ => False⟩) (hc : cDst nt N L o.dst .c i = some d) :
 StepR P tx nt N L ops X0 bs i fr m γ X (putF fr d.s d.nm d.k r) m γ (setT X o.dst (.v .c r)) (alNew L o.dst (alOff ops.toList o.dst A)) (fun D => D) ⟨tmOf ops.toList o i an rd wr, ⟨i, an, rdl, [], m.nx, m.nx, false⟩, GH, GH⟩ := by
 refine step_dst h hst rfl (fun _ h => h) (fun _ h => h) hc (fun _ _ k e => by cases e) (fun l hl => ?_) ⟨fun q hq => ?_, fun _ q hq => (by cases hq), fun h => (by cases h), fun h => (by cases h), ?_, Nat.le_refl _, fun g h1 h2 => absurd (Nat.lt_of_le_of_lt h1 h2) (Nat.lt_irrefl GH)⟩ rfl rfl rfl rfl
 ·
  rcases hl with hl | ⟨q, hq, hl⟩
  · exact rt_in hl
  ·
   obtain ⟨id, hid, rfl⟩ := hrd q hq
   cases l with
   | tm t => exact hl.elim
   | mt j =>
    have e : accI (acc id 0 4095) = j := hl
    rw [(acc_all id).1] at e
    subst e
    exact .inl ⟨h.lt hid, .inl ⟨_, hq, (acc_all id).1⟩⟩
   | cl j k =>
    have e : accI (acc id 0 4095) = j := hl.1
    rw [(acc_all id).1] at e
    subst e
    exact .inl ⟨h.lt hid, .inl ⟨_, hq, hl⟩⟩
 · obtain ⟨id, hid, rfl⟩ := hrd q hq
   obtain ⟨_, a2, a3⟩ := acc_all id
   rw [a2, a3]; omega
 · have := h.hi
   show m.nx ≤ GH
   unfold GH; omega
def setB (X : Loc → Vl) (g : Nat) (bk : Blk) : Loc → Vl
 | .tm t => X (.tm t)
 | .mt j => if j = g then .mt bk.n bk.ty bk.es bk.ex else X (.mt j)
 | .cl j k => if j = g ∧ k < bk.n then .c (cel bk.c k) else X (.cl j k)
theorem heap_new {h : HT} {nx : Nat} {h' : HT} {bk : Blk} (hp : HeapIs X h nx) (hh : ∀ j, T.get h' j = if j = nx then some bk else T.get h j) (hnx : nx ≤ 1000000) (hn : bk.n ≤ 4094) (hc : bk.c < 2 ^ (72 * bk.n)) : HeapIs (setB X nx bk) h' (nx + 1) := by
 refine ⟨fun id b e => ?_, fun id hid e => ?_, by omega⟩
 ·
  rw [hh] at e
  by_cases h1 : id = nx
  · subst h1
    rw [if_pos rfl] at e
    cases e
    exact ⟨by omega, if_pos rfl, fun i hi => if_pos ⟨rfl, hi⟩, hn, hc⟩
  · rw [if_neg h1] at e
    obtain ⟨h2, h3⟩ := hp.at_ id b e
    exact ⟨by omega, (if_neg h1).trans h3.mt, fun i hi => (if_neg fun e => h1 e.1).trans (h3.cl i hi), h3.n, h3.lt⟩
 · rw [hh] at e
   by_cases h1 : id = nx
   · rw [if_pos h1] at e; cases e
   · rw [if_neg h1] at e
     exact (if_neg h1).trans (hp.no id (by omega) e)
theorem al1_some {m : Me} {b : Blk} {κ : Me → Bool} (h : al1 m b κ = true) : m.nx ≤ 1000000 ∧ b.n ≤ 4094 ∧ ∃ h', κ ⟨h', m.nx + 1, m.lg⟩ = true ∧ ∀ j, T.get h' j = if j = m.nx then some b else T.get m.h j := by
 unfold al1 at h
 obtain ⟨h1, h⟩ := iff_tt h
 obtain ⟨h2, h⟩ := iff_tt h
 obtain ⟨h', h3, h4⟩ := setK_some h
 exact ⟨ble_t h1, ble_t h2, h', h3, h4⟩
theorem step_al (h : Pre tx nt N L ops X0 bs A fr m γ X) {r : Nat} {bk : Blk} {h' : HT} {d : Pl} (hnx : m.nx ≤ 1000000) (hn : bk.n ≤ 4094) (hh : ∀ j, T.get h' j = if j = m.nx then some bk else T.get m.h j) (hbc : bk.c < 2 ^ (72 * bk.n))
 (hst : ∀ Q, StpOk (Rel tx nt) P ops Q i X (setT (setB X m.nx bk) o.dst (.v .c r)) ⟨RT ops o, fun l => wD o.dst l ∨ l = .mt m.nx ∨ ∃ j, l = .cl m.nx j ∧ j < bk.n, fun _ => False, fun j => j = m.nx⟩) (hc : cDst nt N L o.dst .c i = some d) :
 StepR P tx nt N L ops X0 bs i fr m γ X (putF fr d.s d.nm d.k r) ⟨h', m.nx + 1, m.lg⟩ γ (setT (setB X m.nx bk) o.dst (.v .c r)) (alNew L o.dst (alOff ops.toList o.dst A)) (fun D => D) ⟨tmOf ops.toList o i an rd wr, ⟨i, an, [], [], m.nx, m.nx + 1, false⟩, GH, GH⟩ := by
 have hgh : m.nx < GH := by unfold GH; omega
 have hrg : RgOk N m γ ⟨h', m.nx + 1, m.lg⟩ γ ⟨tmOf ops.toList o i an rd wr, ⟨i, an, [], [], m.nx, m.nx + 1, false⟩, GH, GH⟩ := ⟨Nat.le_succ _, Nat.succ_le_succ hnx, Nat.le_refl _, fun _ => ⟨rfl, rfl⟩, fun h' => (by cases h'), fun h' => absurd h' (Nat.lt_irrefl GH)⟩
 have hne : ∀ g, GH ≤ g → g ≠ m.nx := fun g h1 h2 => by omega
 obtain ⟨f1, f2, f3⟩ := fin_step (L := L) hst (fun l hl => by
   rw [setT_out l fun h => hl (.inl h)]
   cases l with
   | tm t => rfl
   | mt j => exact if_neg fun e => hl (.inr (.inl (by rw [e])))
   | cl j k => exact if_neg fun e => hl (.inr (.inr ⟨k, by rw [e.1], e.2⟩))) h.live hrg (fun l hl => .inl (rt_in hl)) (fun l hl => by
     rcases hl with hl | hl | ⟨j, hl, _⟩
     · exact wd_in hl
     · subst hl; exact .inl ⟨hgh, .inr ⟨Nat.le_refl _, Nat.lt_succ_self _⟩⟩
     · subst hl; exact .inl ⟨hgh, .inr ⟨Nat.le_refl _, Nat.lt_succ_self _⟩⟩) (fun j hj => hj.elim) (fun j hj => by subst hj; exact .inl ⟨Nat.le_refl _, Nat.lt_succ_self _⟩)
 obtain ⟨g1, g2, g3⟩ := dst_put (X' := setT (setB X m.nx bk) o.dst (.v .c r)) (v := r) h.ly h.n1 h.fok h.al hc (fun _ _ k e => by cases e) (fun t ht => setT_ne ht) (fun g hg => if_neg (hne g hg)) (fun g j hg => if_neg fun e => hne g hg e.1) (fun t e => by rw [e]; exact setT_at) (fun t e => live_lt f3 (by rw [e]; exact setT_at))
 have hb := h.hp.b
 refine ⟨f1, f2, hrg, ⟨fun q hq => (by cases hq), fun _ q hq => (by cases hq), fun h => (by cases h), fun h => (by cases h), hgh, Nat.le_refl _, fun g h1 h2 => absurd (Nat.lt_of_le_of_lt h1 h2) (Nat.lt_irrefl GH)⟩, rfl, ⟨h.ly, h.n1, g1, g2, ?_, f3⟩, g3, fun _ h => h, fun q hq => (by cases hq)⟩
 have h1 : HpOk X0 bs ⟨h', m.nx + 1, m.lg⟩ (setB X m.nx bk) := ⟨heap_new h.hp.hp hh hnx hn hbc, Nat.le_succ_of_le hb, h.hp.lg, fun id hid => by
   have e : setB X m.nx bk (.mt id) = X (.mt id) := if_neg (by omega)
   rw [e]; exact h.hp.mt id hid, fun id k hid => by
   have e : setB X m.nx bk (.cl id k) = X (.cl id k) := if_neg fun e => by omega
   rw [e]; exact h.hp.cl id k hid⟩
 exact h1.same (fun _ _ => rfl) (fun _ _ _ => rfl)
theorem logOne_mem {bs a : Nat} {log : List Nat} : (∀ q ∈ log, q ∈ logOne bs a log) ∧ (∀ q ∈ logOne bs a log, q ∈ log ∨ (q = a ∧ accI a < bs)) ∧ (accI a < bs → a ∈ logOne bs a log) := by
 have hm : ∀ l : List Nat, memN a l = true → a ∈ l := fun l => by
  induction l with
  | nil => intro h; cases h
  | cons y l ih =>
   intro h
   have h : iff' (Nat.beq a y) true (memN a l) = true := h
   cases e : Nat.beq a y with
   | true => rw [beq_t e]; exact List.mem_cons_self
   | false => rw [e] at h; exact List.mem_cons_of_mem _ (ih h)
 unfold logOne
 cases e1 : Nat.ble bs (accI a) with
 | true => exact ⟨fun q h => h, fun q h => .inl h, fun h => by have := ble_t e1; omega⟩
 | false =>
  have hlt : accI a < bs := by
   by_cases h : accI a < bs
   · exact h
   · have := Nat.ble_eq_true_of_le (show bs ≤ accI a by omega)
     rw [e1] at this; cases this
  cases e2 : memN a log with
  | true => exact ⟨fun q h => h, fun q h => .inl h, fun _ => hm log e2⟩
  | false => exact ⟨fun q h => List.mem_cons_of_mem _ h, fun q h => by
      rcases List.mem_cons.1 h with rfl | h
      · exact .inr ⟨rfl, hlt⟩
      · exact .inl h, fun _ => List.mem_cons_self⟩
end
end Go.Proofs.YtehpobojopmilaaGreat.Ev
namespace Go.Proofs.YtehpobojopmilaaGreat.Ev
set_option linter.unusedVariables false
set_option linter.unusedSimpArgs false
open Go
set_option maxRecDepth 4000
section
variable {P : Program} {TY : T TI} {tx : Tx} {nt N : Nat} {L : T Ly} {ops : Array Oper} {X0 : Loc → Vl} {bs i : Nat} {A : List Al} {fr : Nat} {m m' : Me} {γ : Nat} {X : Loc → Vl} {o : Oper} {an : Nat} {rd wr : List Nat}
def setC (X : Loc → Vl) (id co n r : Nat) : Loc → Vl
 | .tm t => X (.tm t)
 | .mt j => X (.mt j)
 | .cl j k => if j = id ∧ co ≤ k ∧ k < co + n then .c (cel r (k - co)) else X (.cl j k)
theorem setC_in {X : Loc → Vl} {id co n r k : Nat} (h : k < n) : setC X id co n r (.cl id (co + k)) = .c (cel r k) := by
 show (if id = id ∧ co ≤ co + k ∧ co + k < co + n then _ else _) = _
 rw [if_pos ⟨rfl, by omega, by omega⟩, Nat.add_sub_cancel_left]
theorem setC_out {X : Loc → Vl} {id co n r : Nat} (l : Loc) (h : ¬ ∃ j, l = .cl id (co + j) ∧ j < n) : setC X id co n r l = X l := by
 cases l with
 | tm t => rfl
 | mt j => rfl
 | cl j k =>
  refine if_neg fun ⟨h1, h2, h3⟩ => h ⟨k - co, ?_, by omega⟩
  rw [h1, show co + (k - co) = k by omega]
theorem step_st (h : Pre tx nt N L ops X0 bs A fr m γ X) {r id co n : Nat} {bk : Blk} {h' : HT} {d : Pl} (hb : T.get m.h id = some bk) (h1 : 1 ≤ n) (h2 : co + n ≤ bk.n) (hr : r < 2 ^ (72 * n)) (hh : ∀ j, T.get h' j = if j = id then some ⟨put bk.c (72 * co) (mk n) r, bk.n, bk.ty, bk.es, bk.ex⟩ else T.get m.h j)
 (hst : ∀ Q, StpOk (Rel tx nt) P ops Q i X (setT (setC X id co n r) o.dst (.v (.t []) 0)) ⟨fun l => RT ops o l ∨ l = .mt id, fun l => wD o.dst l ∨ ∃ j, l = .cl id (co + j) ∧ j < n, fun j => j = id, fun _ => False⟩) (hc : cDst nt N L o.dst (.t []) i = some d) :
 StepR P tx nt N L ops X0 bs i fr m γ X fr ⟨h', m.nx, logOne bs (acc id co n) m.lg⟩ γ (setT (setC X id co n r) o.dst (.v (.t []) 0)) (alNew L o.dst (alOff ops.toList o.dst A)) (fun D => D) ⟨tmOf ops.toList o i an rd wr, ⟨i, an, [acc id co n], [acc id co n], 0, 0, false⟩, GH, GH⟩ := by
 obtain ⟨h3, h4⟩ := h.hp.hp.at_ id bk hb
 have hid := h.lt h3
 have hn4 := h4.n
 obtain ⟨a1, a2, a3⟩ := acc_ok (id := id) (co := co) (n := n) (by omega) (by omega)
 have hrg : RgOk N m γ ⟨h', m.nx, logOne bs (acc id co n) m.lg⟩ γ ⟨tmOf ops.toList o i an rd wr, ⟨i, an, [acc id co n], [acc id co n], 0, 0, false⟩, GH, GH⟩ := ⟨Nat.le_refl _, h.hi, Nat.le_refl _, fun h' => absurd h' (Nat.lt_irrefl 0), fun h' => (by cases h'), fun h' => absurd h' (Nat.lt_irrefl GH)⟩
 obtain ⟨f1, f2, f3⟩ := fin_step (L := L) hst (fun l hl => by
   rw [setT_out l fun h => hl (.inl h)]
   exact setC_out l fun h => hl (.inr h)) h.live hrg (fun l hl => .inl (by
     rcases hl with hl | hl
     · exact rt_in hl
     · subst hl
       exact .inl ⟨hid, .inl ⟨_, List.mem_singleton.2 rfl, a1⟩⟩)) (fun l hl => by
     rcases hl with hl | ⟨j, hl, hj⟩
     · exact wd_in hl
     · subst hl
       exact .inl ⟨hid, .inl ⟨_, List.mem_singleton.2 rfl, a1, by rw [a2]; omega, by rw [a2, a3]; omega⟩⟩) (fun j hj => .inr ⟨_, List.mem_singleton.2 rfl, by rw [a1]; exact hj.symm⟩) (fun j hj => hj.elim)
 have hng : ∀ g k, GH ≤ g → setC X id co n r (.cl g k) = X (.cl g k) := fun g k hg => if_neg fun ⟨e, _⟩ => by omega
 have hput : Agree N fr fr N 0 := fun _ _ _ _ => rfl
 -- the frame is as it was; the tmp that is written holds nothing
 have key : FrOk L N fr (setT (setC X id co n r) o.dst (.v (.t []) 0)) ∧ (∀ a ∈ alNew L o.dst (alOff ops.toList o.dst A), AliOk ops tx L fr (setT (setC X id co n r) o.dst (.v (.t []) 0)) a) := by
  cases e : o.dst with
  | none =>
   obtain ⟨g1, g2, _⟩ := none_ok (X' := setT (setC X id co n r) none (.v (.t []) 0)) h.ly h.fok h.al hput (fun _ => rfl) (fun _ _ => rfl) hng
   exact ⟨g1, g2⟩
  | some t =>
   obtain ⟨hlt, y, hy, hys⟩ := cDst_nt hc t e
   have hy0 : y.h.sz = 0 := by rw [hys]; rfl
   have hv : spn fr (72 * y.p) (mk y.h.sz) = 0 := by
    have := spn_lt fr (72 * y.p) y.h.sz
    rw [hy0] at this ⊢
    simpa using this
   obtain ⟨g1, g2, _⟩ := put_ok (X' := setT (setC X id co n r) (some t) (.v (.t []) 0)) (v := 0) h.ly h.fok h.al hy (fun k e => by rw [hys] at e; cases e) (fun _ _ _ _ => rfl) hv (by rw [setT_at, hys]) (fun q hq => setT_ne fun e => hq (Option.some.inj e).symm) (fun _ _ => rfl) hng
   have e : alNew L (some t) (alOff ops.toList (some t) A) = alOff ops.toList (some t) A := by
    unfold alNew
    show @Option.rec Ly (fun _ => List Al) _ _ (L.get t) = _
    rw [hy]
    obtain ⟨yp, yh⟩ := y
    have hys : yh = .t [] := hys
    subst hys
    rfl
   rw [e]
   exact ⟨g1, g2⟩
 have hb' := h.hp.b
 obtain ⟨l1, l2, l3⟩ := logOne_mem (bs := bs) (a := acc id co n) (log := m.lg)
 refine ⟨f1, f2, hrg, ⟨fun q hq => ?_, fun _ q hq => hq, fun h => (by cases h), fun h => (by cases h), Nat.zero_le _, Nat.le_refl _, fun g h1 h2 => absurd (Nat.lt_of_le_of_lt h1 h2) (Nat.lt_irrefl GH)⟩, rfl, ⟨h.ly, h.n1, key.1, key.2, ?_, f3⟩, fun D hD => hD, l1, fun q hq => ?_⟩
 · have hq := List.mem_singleton.1 hq
   subst hq
   rw [a2, a3]; omega
 ·
  have h1 : HpOk X0 bs ⟨h', m.nx, logOne bs (acc id co n) m.lg⟩ (setC X id co n r) := by
   refine ⟨⟨fun j b e => ?_, fun j hj e => ?_, h.hi⟩, hb', fun q hq => ?_, fun j hj => ?_, fun j k hj => ?_⟩
   ·
    rw [hh] at e
    by_cases ej : j = id
    ·
     subst ej
     rw [if_pos rfl] at e
     cases e
     refine ⟨h3, h4.mt, fun q hq => ?_, h4.n, put_lt h4.lt hr h2⟩
     have hq : q < bk.n := hq
     rw [cel_put hr]
     by_cases hin : co ≤ q ∧ q < co + n
     · rw [if_pos hin]; exact if_pos ⟨rfl, hin.1, hin.2⟩
     · rw [if_neg hin]; exact (if_neg fun ⟨_, g⟩ => hin g).trans (h4.cl q hq)
    · rw [if_neg ej] at e
      obtain ⟨g1, g2⟩ := h.hp.hp.at_ j b e
      exact ⟨g1, g2.mt, fun q hq => (if_neg fun ⟨g, _⟩ => ej g).trans (g2.cl q hq), g2.n, g2.lt⟩
   · rw [hh] at e
     by_cases ej : j = id
     · rw [if_pos ej] at e; cases e
     · rw [if_neg ej] at e
       exact h.hp.hp.no j hj e
   ·
    rcases l2 q hq with hq2 | ⟨hq1, hq2⟩
    · exact h.hp.lg q hq2
    · subst hq1
      refine ⟨hq2, ?_⟩
      rw [a1] at hq2 ⊢
      rcases h.hp.mt id hq2 with g | ⟨g, _⟩
      · rw [← g, h4.mt]; intro h; cases h
      · rw [h4.mt] at g; cases g
   · rcases h.hp.mt j hj with g | ⟨g, g'⟩
     · exact .inl g
     · exact .inr ⟨g, l1 _ g'⟩
   ·
    by_cases hin : j = id ∧ co ≤ k ∧ k < co + n
    · obtain ⟨ej, hk⟩ := hin
      subst ej
      exact .inr ⟨_, l3 (by rw [a1]; exact hj), a1, by rw [a2]; exact hk.1, by rw [a2, a3]; exact hk.2⟩
    · have e : setC X id co n r (.cl j k) = X (.cl j k) := if_neg hin
      rw [e]
      rcases h.hp.cl j k hj with g | ⟨q, g, g'⟩
      · exact .inl g
      · exact .inr ⟨q, l1 _ g, g'⟩
  exact h1.same (fun _ _ => rfl) (fun _ _ _ => rfl)
 · have hq := List.mem_singleton.1 hq
   subst hq
   by_cases hlt : accI (acc id co n) < bs
   · exact .inr ⟨_, l3 hlt, rfl⟩
   · exact .inl (by omega)
def setE (X : Loc → Vl) (e : Option Nat) : Loc → Vl
 | .tm t => X (.tm t)
 | .mt j => if e = some j then .no else X (.mt j)
 | .cl j k => X (.cl j k)
noncomputable def lgE (bs : Nat) (lg : List Nat) : Option Nat → List Nat
 | some id => logOne bs (acc id 0 4095) lg
 | none => lg
theorem step_grow (h : Pre tx nt N L ops X0 bs A fr m γ X) {r : Nat} {rdl : List Nat} {bk : Blk} {e : Option Nat} {h1 h' : HT} {lg' : List Nat} {d : Pl} (hrd : ∀ q ∈ rdl, ∃ id, id < m.nx ∧ q = acc id 0 4095) (he : ∀ id, e = some id → T.get m.h id ≠ none ∧ acc id 0 4095 ∈ rdl) (hnx : m.nx ≤ 1000000) (hn : bk.n ≤ 4094) (hbc : bk.c < 2 ^ (72 * bk.n))
 (hh1 : ∀ j, T.get h1 j = if e = some j then none else T.get m.h j) (hlg : lg' = lgE bs m.lg e) (hh : ∀ j, T.get h' j = if j = m.nx then some bk else T.get h1 j)
 (hst : ∀ Q, StpOk (Rel tx nt) P ops Q i X (setT (setB (setE X e) m.nx bk) o.dst (.v .c r)) ⟨fun l => RT ops o l ∨ rdR rdl l, fun l => wD o.dst l ∨ l = .mt m.nx ∨ (∃ j, l = .cl m.nx j) ∨ ∃ id, e = some id ∧ l = .mt id, fun j => e = some j, fun j => j = m.nx⟩) (hc : cDst nt N L o.dst .c i = some d) :
 StepR P tx nt N L ops X0 bs i fr m γ X (putF fr d.s d.nm d.k r) ⟨h', m.nx + 1, lg'⟩ γ (setT (setB (setE X e) m.nx bk) o.dst (.v .c r)) (alNew L o.dst (alOff ops.toList o.dst A)) (fun D => D) ⟨tmOf ops.toList o i an rd wr, ⟨i, an, rdl, optL e, m.nx, m.nx + 1, false⟩, GH, GH⟩ := by
 have hgh : m.nx < GH := by unfold GH; omega
 have hel : ∀ id, e = some id → id < m.nx ∧ X (.mt id) ≠ .no := fun id he' => by
  obtain ⟨g1, _⟩ := he id he'
  cases hb : T.get m.h id with
  | none => exact absurd hb g1
  | some b =>
   obtain ⟨g2, g3⟩ := h.hp.hp.at_ id b hb
   exact ⟨g2, by rw [g3.mt]; intro h; cases h⟩
 have hopt : ∀ q, q ∈ optL e → ∃ id, e = some id ∧ q = acc id 0 4095 := fun q hq => by
  cases e with
  | none => cases hq
  | some id => exact ⟨id, rfl, List.mem_singleton.1 hq⟩
 have hopt2 : ∀ id, e = some id → acc id 0 4095 ∈ optL e := fun id he' => by subst he'; exact List.mem_singleton.2 rfl
 have hrg : RgOk N m γ ⟨h', m.nx + 1, lg'⟩ γ ⟨tmOf ops.toList o i an rd wr, ⟨i, an, rdl, optL e, m.nx, m.nx + 1, false⟩, GH, GH⟩ := ⟨Nat.le_succ _, Nat.succ_le_succ hnx, Nat.le_refl _, fun _ => ⟨rfl, rfl⟩, fun h' => (by cases h'), fun h' => absurd h' (Nat.lt_irrefl GH)⟩
 obtain ⟨f1, f2, f3⟩ := fin_step (L := L) hst (fun l hl => by
   rw [setT_out l fun h => hl (.inl h)]
   cases l with
   | tm t => rfl
   | mt j =>
     have e1 : setB (setE X e) m.nx bk (.mt j) = setE X e (.mt j) := if_neg fun e' => hl (.inr (.inl (by rw [e'])))
     rw [e1]
     exact if_neg fun e' => hl (.inr (.inr (.inr ⟨j, e', rfl⟩)))
   | cl j k => exact if_neg fun e => hl (.inr (.inr (.inl ⟨k, by rw [e.1]⟩)))) h.live hrg (fun l hl => .inl (by
     rcases hl with hl | ⟨q, hq, hl⟩
     · exact rt_in hl
     · obtain ⟨id, hid, rfl⟩ := hrd q hq
       cases l with
       | tm t => exact hl.elim
       | mt j =>
         have e : accI (acc id 0 4095) = j := hl
         rw [(acc_all id).1] at e
         subst e
         exact .inl ⟨h.lt hid, .inl ⟨_, hq, (acc_all id).1⟩⟩
       | cl j k =>
         have e : accI (acc id 0 4095) = j := hl.1
         rw [(acc_all id).1] at e
         subst e
         exact .inl ⟨h.lt hid, .inl ⟨_, hq, hl⟩⟩)) (fun l hl => by
     rcases hl with hl | hl | ⟨j, hl⟩ | ⟨id, he', hl⟩
     · exact wd_in hl
     · subst hl; exact .inl ⟨hgh, .inr ⟨Nat.le_refl _, Nat.lt_succ_self _⟩⟩
     · subst hl; exact .inl ⟨hgh, .inr ⟨Nat.le_refl _, Nat.lt_succ_self _⟩⟩
     · subst hl; exact .inl ⟨h.lt (hel id he').1, .inl ⟨_, hopt2 id he', rfl⟩⟩) (fun j hj => .inr ⟨_, hopt2 j hj, (acc_all j).1⟩) (fun j hj => by subst hj; exact .inl ⟨Nat.le_refl _, Nat.lt_succ_self _⟩)
 have hgm : ∀ g, GH ≤ g → setB (setE X e) m.nx bk (.mt g) = X (.mt g) := fun g hg => by
  have e1 : setB (setE X e) m.nx bk (.mt g) = setE X e (.mt g) := if_neg (by omega)
  rw [e1]
  exact if_neg fun e' => by have := (hel g e').1; omega
 obtain ⟨g1, g2, g3⟩ := dst_put (X' := setT (setB (setE X e) m.nx bk) o.dst (.v .c r)) (v := r) h.ly h.n1 h.fok h.al hc (fun _ _ k e => by cases e) (fun t ht => setT_ne ht) hgm (fun g j hg => if_neg fun e => by omega) (fun t e => by rw [e]; exact setT_at) (fun t e => live_lt f3 (by rw [e]; exact setT_at))
 have hb := h.hp.b
 have hlm : ∀ q ∈ m.lg, q ∈ lg' := fun q hq => by
  rw [hlg]
  cases e with
  | none => exact hq
  | some id => exact (logOne_mem).1 q hq
 have hln : ∀ q ∈ lg', q ∈ m.lg ∨ ∃ id, e = some id ∧ q = acc id 0 4095 ∧ id < bs := fun q hq => by
  rw [hlg] at hq
  cases e with
  | none => exact .inl hq
  | some id =>
   rcases (logOne_mem).2.1 q hq with h | ⟨h, h'⟩
   · exact .inl h
   · rw [(acc_all id).1] at h'
     exact .inr ⟨id, rfl, h, h'⟩
 have hle : ∀ id, e = some id → id < bs → acc id 0 4095 ∈ lg' := fun id he' hlt => by
  rw [hlg, he']
  exact (logOne_mem).2.2 (by rw [(acc_all id).1]; exact hlt)
 refine ⟨f1, f2, hrg, ⟨fun q hq => ?_, fun _ q hq => ?_, fun h => (by cases h), fun h => (by cases h), hgh, Nat.le_refl _, fun g h1 h2 => absurd (Nat.lt_of_le_of_lt h1 h2) (Nat.lt_irrefl GH)⟩, rfl, ⟨h.ly, h.n1, g1, g2, ?_, f3⟩, g3, hlm, fun q hq => ?_⟩
 · obtain ⟨id, hid, rfl⟩ := hrd q hq
   obtain ⟨_, a2, a3⟩ := acc_all id
   rw [a2, a3]; omega
 · obtain ⟨id, he', rfl⟩ := hopt q hq
   exact (he id he').2
 ·
  have hp1 : HeapIs (setE X e) h1 m.nx := by
   refine ⟨fun id b eb => ?_, fun id hid eb => ?_, h.hi⟩
   · rw [hh1] at eb
     by_cases e1 : e = some id
     · rw [if_pos e1] at eb; cases eb
     · rw [if_neg e1] at eb
       obtain ⟨g1, g2⟩ := h.hp.hp.at_ id b eb
       exact ⟨g1, (if_neg e1).trans g2.mt, g2.cl, g2.n, g2.lt⟩
   · rw [hh1] at eb
     by_cases e1 : e = some id
     · exact if_pos e1
     · rw [if_neg e1] at eb
       exact (if_neg e1).trans (h.hp.hp.no id hid eb)
  have h2 : HpOk X0 bs ⟨h', m.nx + 1, lg'⟩ (setB (setE X e) m.nx bk) := ⟨heap_new hp1 hh hnx hn hbc, Nat.le_succ_of_le hb, fun q hq => by
    rcases hln q hq with hq | ⟨id, he', rfl, hid⟩
    · exact h.hp.lg q hq
    · rw [(acc_all id).1]
      refine ⟨hid, ?_⟩
      rcases h.hp.mt id hid with g | ⟨g, _⟩
      · rw [← g]; exact (hel id he').2
      · exact absurd g (hel id he').2, fun id hid => by
    have e0 : setB (setE X e) m.nx bk (.mt id) = setE X e (.mt id) := if_neg (by omega)
    rw [e0]
    by_cases e1 : e = some id
    · exact .inr ⟨if_pos e1, hle id e1 hid⟩
    · have e2 : setE X e (.mt id) = X (.mt id) := if_neg e1
      rw [e2]
      rcases h.hp.mt id hid with g | ⟨g, g'⟩
      · exact .inl g
      · exact .inr ⟨g, hlm _ g'⟩, fun id k hid => by
    have e0 : setB (setE X e) m.nx bk (.cl id k) = X (.cl id k) := if_neg fun e => by omega
    rw [e0]
    rcases h.hp.cl id k hid with g | ⟨q, g, g'⟩
    · exact .inl g
    · exact .inr ⟨q, hlm _ g, g'⟩⟩
  exact h2.same (fun _ _ => rfl) (fun _ _ _ => rfl)
 · obtain ⟨id, he', rfl⟩ := hopt q hq
   rw [(acc_all id).1]
   by_cases hlt : id < bs
   · exact .inr ⟨_, hle id he' hlt, (acc_all id).1⟩
   · exact .inl (by omega)
end
end Go.Proofs.YtehpobojopmilaaGreat.Ev
