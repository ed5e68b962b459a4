/- The evaluator, texts in one: EvY EvY2 EvY3 EvY4 EvY5 EvY6 EvY7 EvZ EvZ2 EvZ3. Conditions: none. -/
import Derived.Test.YtehpobojopmilaaGreatZE1
import Derived.Laws.BytesArg
import Derived.Deep.Upon
namespace Go.Proofs.YtehpobojopmilaaGreat.Ev
set_option linter.unusedVariables false
set_option linter.unusedSimpArgs false
open Go
set_option maxRecDepth 4000
def OpdIs (tx : Tx) (X : Loc → Vl) (x : Operand) (h : Sh) (c : Nat) : Prop := match x with
 | .tmp t => X (.tm t) = .v h c ∨ ((∃ p, h = .a p) ∧ c = 0)
 | .const v => ∀ s, Cl tx s h c v
 | _ => False
def RT (ops : Array Oper) (o : Oper) (l : Loc) : Prop := ∃ t, l = .tm t ∧ (Operand.tmp t ∈ o.op.operands ∨ ∃ j x, o.guard = some (j, x) ∧ (ops[j]?).bind (·.dst) = some t)
def GdOn (ops : Array Oper) (X : Loc → Vl) (G : Option (Nat × Bool)) : Prop := ∀ j x, G = some (j, x) → ∃ d, (ops[j]?).bind (·.dst) = some d ∧ X (.tm d) = .v .c (bo x)
def GdOff (ops : Array Oper) (X : Loc → Vl) (G : Option (Nat × Bool)) : Prop := ∃ j x d c, G = some (j, x) ∧ (ops[j]?).bind (·.dst) = some d ∧ X (.tm d) = .v .c c ∧ Nat.beq c (bo x) = false
section
variable {P : Program} {tx : Tx} {nt : Nat} {ops : Array Oper} {Q : Exit → Act → World → Prop} {i : Nat} {o : Oper} {X X' : Loc → Vl} {p : Stp Loc}
theorem opd_cl {s : Sg} {Y : Loc → Vl} {a : Act} {w : World} (hr : Rel tx nt s Y a w) {x : Operand} {h : Sh} {c : Nat} (hY : ∀ t, x = .tmp t → Y (.tm t) = X (.tm t)) (k : OpdIs tx X x h c) : Cl tx s h c (a.eval x) := by
 cases x with
 | tmp t =>
  rcases k with k | ⟨⟨p, rfl⟩, rfl⟩
  · have := hr.tm t
    rw [hY t rfl, k] at this
    exact this
  · exact ⟨fun h => absurd rfl h, (fun h => by cases h), Nat.two_pow_pos _⟩
 | const v => exact k s
 | _ => exact k.elim
theorem stp_on (ho : ops[i]? = some o) (hg : GdOn ops X o.guard) (hR : ∀ l, RT ops o l → p.R l)
 (h : ∀ s Y a w, (∀ l, p.R l ∨ p.W l → Y l = X l) → Rel tx nt s Y a w → (∀ j, p.N j → s j = none) → ∀ K : Act → World → Prop, (∀ s' a' w', Trs p.L p.N s w s' w' → Rel tx nt s' (over Y X' p.W) a' w' → K a' w') → o.wp P a w K Q) :
 StpOk (Rel tx nt) P ops Q i X X' p := by
 intro s Y a w hY hr hf K hK
 unfold wpOp
 rw [ho]
 have hw : Region.wanted o (yielded ops a.tmps) = true := by
  cases e : o.guard with
  | none => exact wanted_none e
  | some g =>
   obtain ⟨j, x⟩ := g
   obtain ⟨d, hd, hx⟩ := hg j x e
   have hc := hr.tm d
   rw [hY _ (.inl (hR _ ⟨d, rfl, .inr ⟨j, x, e, hd⟩⟩)), hx] at hc
   rw [wanted_is e hd hc]
   cases x <;> rfl
 show (if _ then _ else _)
 rw [if_pos hw]
 exact .inl (h s Y a w hY hr hf K hK)
theorem stp_run (ho : ops[i]? = some o) (hg : GdOn ops X o.guard) (hR : ∀ l, RT ops o l → p.R l)
 (h : ∀ s Y a w, (∀ l, p.R l ∨ p.W l → Y l = X l) → Rel tx nt s Y a w → (∀ j, p.N j → s j = none) → ∃ v w' s', (execOp a.eval o).run P w = .ok (.value v) w' ∧ Trs p.L p.N s w s' w' ∧ Rel tx nt s' (over Y X' p.W) (a.put o.dst v) w') :
 StpOk (Rel tx nt) P ops Q i X X' p := by
 refine stp_on ho hg hR fun s Y a w hY hr hf K hK => ?_
 obtain ⟨v, w', s', h1, h2, h3⟩ := h s Y a w hY hr hf
 unfold Oper.wp
 rw [h1]
 exact hK s' _ w' h2 h3
theorem stp_skip (ho : ops[i]? = some o) (hg : GdOn ops X o.guard) (hR : ∀ l, RT ops o l → p.R l)
 (h : ∀ s Y a w, (∀ l, p.R l ∨ p.W l → Y l = X l) → Rel tx nt s Y a w → (∀ j, p.N j → s j = none) → ∃ w' s', (execOp a.eval o).run P w = .ok .skip w' ∧ Trs p.L p.N s w s' w' ∧ Rel tx nt s' (over Y X' p.W) (a.put o.dst undef) w') :
 StpOk (Rel tx nt) P ops Q i X X' p := by
 refine stp_on ho hg hR fun s Y a w hY hr hf K hK => ?_
 obtain ⟨w', s', h1, h2, h3⟩ := h s Y a w hY hr hf
 unfold Oper.wp
 rw [h1]
 exact hK s' _ w' h2 h3
theorem stp_off (ho : ops[i]? = some o) (hg : GdOff ops X o.guard) (hd : ∀ d, o.dst = some d → d < nt ∧ (X' (.tm d) = .no ∨ ∃ h, X' (.tm d) = .v h 0)) :
 StpOk (Rel tx nt) P ops Q i X X' ⟨RT ops o, wD o.dst, fun _ => False, fun _ => False⟩ := by
 intro s Y a w hY hr hf K hK
 unfold wpOp
 rw [ho]
 obtain ⟨j, x, d, c, e, hd', hx, hb⟩ := hg
 have hc := hr.tm d
 rw [hY _ (.inl ⟨d, rfl, .inr ⟨j, x, e, hd'⟩⟩), hx] at hc
 show (if _ then _ else _)
 rw [if_neg (by rw [wanted_is e hd' hc, hb]; intro h; cases h)]
 refine hK s _ w (Trs.refl _ _ _ _) (hr.putTm (fun d h => ⟨(hd d h).1, ?_⟩) rfl)
 rcases (hd d h).2 with h' | ⟨q, h'⟩
 · rw [h']; trivial
 · rw [h']; exact ⟨fun h => absurd rfl h, fun _ _ => rfl, Nat.two_pow_pos _⟩
theorem stp_val (ho : ops[i]? = some o) (hg : GdOn ops X o.guard) (hR : ∀ l, RT ops o l → p.R l) (hW : p.W = wD o.dst) (hd : ∀ d, o.dst = some d → d < nt)
 (h : ∀ s Y a w, (∀ l, p.R l ∨ p.W l → Y l = X l) → Rel tx nt s Y a w → ∃ v, (execOp a.eval o).run P w = .ok (.value v) w ∧ ∀ d, o.dst = some d → TmIs tx s (X' (.tm d)) v) :
 StpOk (Rel tx nt) P ops Q i X X' p := by
 refine stp_run ho hg hR fun s Y a w hY hr hf => ?_
 obtain ⟨v, h1, h2⟩ := h s Y a w hY hr
 refine ⟨v, w, s, h1, Trs.refl _ _ _ _, ?_⟩
 rw [hW]
 exact hr.putTm (fun d e => ⟨hd d e, h2 d e⟩) rfl
theorem stp_pu {L : T Ly} {A : List Al} {hs : Sh} {fr r : Nat} (ho : ops[i]? = some o) (hg : GdOn ops X o.guard) (hp : PuOk P tx L A o.guard o.op hs fr r)
 (hcl : ∀ x, x ∈ o.op.operands → ∀ y, cOd tx L A o.guard x = some y → OpdIs tx X x y.h (y.o fr)) (hd : ∀ d, o.dst = some d → d < nt ∧ X' (.tm d) = .v hs r) :
 StpOk (Rel tx nt) P ops Q i X X' ⟨RT ops o, wD o.dst, fun _ => False, fun _ => False⟩ := by
 refine stp_val ho hg (fun _ h => h) rfl (fun d e => (hd d e).1) fun s Y a w hY hr => ?_
 obtain ⟨v, h1, h2⟩ := hp s a.eval fun x hx y hy => opd_cl hr (fun t e => hY _ (.inl ⟨t, rfl, .inl (e ▸ hx)⟩)) (hcl x hx y hy)
 exact ⟨v, h2 o w rfl, fun d e => by rw [(hd d e).2]; exact h1⟩
theorem stp_mv {hs : Sh} {c : Nat} {x : Operand} (ho : ops[i]? = some o) (hg : GdOn ops X o.guard) (hop : o.op = .move x ∨ o.op = .assign x) (hcl : OpdIs tx X x hs c) (hd : ∀ d, o.dst = some d → d < nt ∧ X' (.tm d) = .v hs c) :
 StpOk (Rel tx nt) P ops Q i X X' ⟨RT ops o, wD o.dst, fun _ => False, fun _ => False⟩ := by
 refine stp_val ho hg (fun _ h => h) rfl (fun d e => (hd d e).1) fun s Y a w hY hr => ?_
 have hx : x ∈ o.op.operands := by rcases hop with e | e <;> rw [e] <;> simp [Op.operands]
 refine ⟨a.eval x, ?_, fun d e => ?_⟩
 · unfold execOp
   rcases hop with e | e <;> rw [e] <;> rfl
 · rw [(hd d e).2]
   exact opd_cl hr (fun t e => hY _ (.inl ⟨t, rfl, .inl (e ▸ hx)⟩)) hcl
theorem stp_gp {x y : Nat} {g q : Nat} (ho : ops[i]? = some o) (hg : GdOn ops X o.guard) (hop : o.op = .move (.tmp x) ∨ o.op = .nilCheck (.tmp x)) (hx : X (.tm x) = .gp g q) (hd : ∀ d, o.dst = some d → d < nt ∧ X' (.tm d) = .gp g q) :
 StpOk (Rel tx nt) P ops Q i X X' ⟨RT ops o, wD o.dst, fun _ => False, fun _ => False⟩ := by
 refine stp_val ho hg (fun _ h => h) rfl (fun d e => (hd d e).1) fun s Y a w hY hr => ?_
 have hm : Operand.tmp x ∈ o.op.operands := by rcases hop with e | e <;> rw [e] <;> simp [Op.operands]
 have ht := hr.tm x
 rw [hY _ (.inl ⟨x, rfl, .inl hm⟩), hx] at ht
 obtain ⟨b, k, h1, h2⟩ := ht
 refine ⟨a.eval (.tmp x), ?_, fun d e => ?_⟩
 · unfold execOp
   have h3 : a.eval (.tmp x) = .pointer (some ⟨b, q, none⟩) := h2
   rcases hop with e | e <;> rw [e]
   · rfl
   · simp only [h3]; rfl
 · rw [(hd d e).2]
   exact ⟨b, k, h1, h2⟩
theorem stp_gf {TY : T TI} (hT : ∀ t ti, TY.get t = some ti → tiOf P t = some ti) {t f : Nat} {ti : TI} {fs : List (Nat × Nat × Bool)} {oz : Nat × Nat × Bool} {x : Nat} {g q : Nat} (t1 : TY.get t = some ti) (t2 : stOf ti = some fs) (t3 : nth fs f = some oz) (t4 : 1 ≤ oz.2.1)
 (ho : ops[i]? = some o) (hg : GdOn ops X o.guard) (hop : o.op = .fieldAddr t (.tmp x) f) (hx : X (.tm x) = .gp g q) (hd : ∀ d, o.dst = some d → d < nt ∧ X' (.tm d) = .gp g (q + oz.1)) :
 StpOk (Rel tx nt) P ops Q i X X' ⟨RT ops o, wD o.dst, fun _ => False, fun _ => False⟩ := by
 refine stp_val ho hg (fun _ h => h) rfl (fun d e => (hd d e).1) fun s Y a w hY hr => ?_
 have hm : Operand.tmp x ∈ o.op.operands := by rw [hop]; simp [Op.operands]
 have ht := hr.tm x
 rw [hY _ (.inl ⟨x, rfl, .inl hm⟩), hx] at ht
 obtain ⟨b, k, h1, h2⟩ := ht
 have h3 : a.eval (.tmp x) = .pointer (some ⟨b, q, none⟩) := h2
 obtain ⟨_, fl, fd, i', u1, u2, u3, u4, u5, _⟩ := stTy hT t1 t2 t3
 refine ⟨.pointer (some ⟨b, q + oz.1, none⟩), ?_, fun d e => ?_⟩
 ·
  unfold execOp
  rw [hop]
  refine run_v ?_
  have hne : ¬ oz.2.1 = 0 := by omega
  rw [h3]
  simp [Instr.fieldAt, run_underlying u1, u2, Instr.sureAddr, fieldPlace, sizeOf, typeInfo, u4, u5, hne, add_mid, u3, go_sem]
 · rw [(hd d e).2]
   exact ⟨b, k, h1, rfl⟩
theorem Cl.vsh {TY : T TI} (hT : ∀ t ti, TY.get t = some ti → tiOf P t = some ti) {t : Nat} {ti : TI} (t1 : varOf TY t = some ti) {s : Sg} {r : Nat} {v : Value} (h : VR tx s (shOf ti) r v) : Cl tx s (shOf ti) r v := by
 obtain ⟨_, ag, i, z, g1, g2, g3, g4⟩ := varTy hT t1
 rw [g1] at h ⊢
 exact Cl.sh h
theorem load_ok {TY : T TI} (hT : ∀ t ti, TY.get t = some ti → tiOf P t = some ti) {t : Nat} {ti : TI} (t1 : varOf TY t = some ti) {s : Sg} {Y : Loc → Vl} {w : World} {id n ty es b k q r : Nat} {ex : Bool} {cs : Array Value} (hb : BlkIs tx s w Y id n ty es ex b k cs) (hq : q + ti.sz ≤ n) (hr : r < 2 ^ (72 * ti.sz)) (hc : ∀ i, i < ti.sz → Y (.cl id (q + i)) = .c (cel r i)) :
 ∃ v, VR tx s (shOf ti) r v ∧ (Instr.loadAt t (.pointer (some ⟨b, q, none⟩))).run P w = .ok v w := by
 obtain ⟨_, ag, i, z, g1, g2, g3, g4⟩ := varTy hT t1
 have hle := hb.le
 let l := (cs.toList.drop q).take ti.sz
 have hlen : l.length = ti.sz := by simp [l]; omega
 have hat : ∀ j, j < ti.sz → l[j]? = cs[q + j]? := fun j hj => by
  simp only [l]
  rw [List.getElem?_take_of_lt hj, List.getElem?_drop, Array.getElem?_toList]
 have hcell : ∀ j, w.cell? ⟨b, j, none⟩ = cs[j]? := fun j => by simp [World.cell?, hb.blk]
 have hrl : RL tx s r ti.sz l := ⟨hlen, hr, fun j hj => by
   obtain ⟨v, h1, h2⟩ := hb.cl (q + j) _ (by omega) (hc j (by omega))
   have h3 := hat j (by omega)
   rw [h1, List.getElem?_eq_getElem hj] at h3
   cases h3; exact h2⟩
 rw [g1]
 cases ag with
 | true =>
  refine ⟨.agg l.toArray, ⟨l, rfl, hrl⟩, ?_⟩
  obtain ⟨d, h1, h2⟩ := g2
  refine run_loadAt_mid w b q t l d (fun j v hj => ?_) h1 h2 (by rw [g4.info]; simp [g4.size, hlen])
  have hj' := (List.getElem?_eq_some_iff.1 hj).1
  rw [hcell, ← hat j (by omega)]; exact hj
 | false =>
  have h1 := g3 rfl
  obtain ⟨v, h2, h3⟩ := hb.cl (q + 0) _ (by omega) (hc 0 (by omega))
  rw [h1] at hr
  rw [cel_one (by simpa using hr)] at h3
  refine ⟨v, h3, ?_⟩
  have h4 : w.cell? ⟨b, q, none⟩ = some v := by rw [hcell]; exact h2
  simp [Instr.loadAt, Instr.sureAddr, loadVar, run_isAgg g2, h4, go_sem]
theorem store_ok {TY : T TI} (hT : ∀ t ti, TY.get t = some ti → tiOf P t = some ti) {t : Nat} {ti : TI} (t1 : varOf TY t = some ti) {s : Sg} {Y : Loc → Vl} {w : World} {id n ty es b k q r : Nat} {ex : Bool} {cs : Array Value} {v : Value} (hb : BlkIs tx s w Y id n ty es ex b k cs) (hq : q + ti.sz ≤ n) (hv : VR tx s (shOf ti) r v) :
 ∃ vs : List Value, vs.length = ti.sz ∧ RL tx s r ti.sz vs ∧ (∀ u ∈ vs, u.oneCell' = true) ∧ (Instr.storeAt t (.pointer (some ⟨b, q, none⟩)) v).run P w = .ok () (w.setCells b q vs) := by
 obtain ⟨_, ag, i, z, g1, g2, g3, g4⟩ := varTy hT t1
 rw [g1] at hv
 obtain ⟨h1, h2, h3⟩ := VR.cells hv g3
 have hle := hb.le
 refine ⟨v.cells.toList, by simpa using h2, h1, fun u hu => h3 u (by simpa using hu), ?_⟩
 have hcell : ∀ j, w.cell? ⟨b, j, none⟩ = cs[j]? := fun j => by simp [World.cell?, hb.blk]
 have := run_storeCells_cells (P := P) b q v.cells.toList 0 w (fun j hj => by
     simp only [Array.length_toList, h2] at hj
     rw [Nat.add_zero, hcell, Array.getElem?_eq_getElem (by omega)]; rfl) (fun j hj => by simp [World.frozen?, hb.blk]) (fun u hu => h3 u (by simpa using hu))
 simp only [Nat.add_zero] at this
 simp [Instr.storeAt, Instr.sureAddr, storeVar, sizeOf, typeInfo, g4.info, g4.size, h2, this]
end
end Go.Proofs.YtehpobojopmilaaGreat.Ev
namespace Go.Proofs.YtehpobojopmilaaGreat.Ev
set_option linter.unusedVariables false
set_option linter.unusedSimpArgs false
open Go
set_option maxRecDepth 4000
def PtIs (tx : Tx) (X : Loc → Vl) (x : Operand) (id q : Nat) : Prop := (∃ t, x = .tmp t ∧ X (.tm t) = .gp id q) ∨ ∃ c, OpdIs tx X x .c c ∧ ∀ (s : Sg) (v : Value), Cl tx s .c c v → ∃ b k, v = .pointer (some ⟨b, q, none⟩) ∧ s id = some (b, k)
section
variable {P : Program} {TY : T TI} {tx : Tx} {nt : Nat} {ops : Array Oper} {Q : Exit → Act → World → Prop} {i : Nat} {o : Oper} {X X' : Loc → Vl}
theorem pt_at {s : Sg} {Y : Loc → Vl} {a : Act} {w : World} (hr : Rel tx nt s Y a w) {x : Operand} {id q : Nat} (hY : ∀ t, x = .tmp t → Y (.tm t) = X (.tm t)) (k : PtIs tx X x id q) : ∃ b k, a.eval x = .pointer (some ⟨b, q, none⟩) ∧ s id = some (b, k) := by
 rcases k with ⟨t, rfl, h⟩ | ⟨c, h, h2⟩
 · have := hr.tm t
   rw [hY t rfl, h] at this
   obtain ⟨b, k, h1, h2⟩ := this
   exact ⟨b, k, h2, h1⟩
 · exact h2 s _ (opd_cl hr hY h)
theorem blk_at {s : Sg} {Y : Loc → Vl} {w : World} (hr : RelH tx s Y w) {id n ty es b k : Nat} {ex : Bool} (h : Y (.mt id) = .mt n ty es ex) (hs : s id = some (b, k)) : ∃ cs, BlkIs tx s w Y id n ty es ex b k cs := by
 obtain ⟨b', k', cs, g⟩ := hr.bl id n ty es ex h
 have := g.at_
 rw [hs] at this
 cases this
 exact ⟨cs, g⟩
theorem stp_load (hT : ∀ t ti, TY.get t = some ti → tiOf P t = some ti) {t : Nat} {ti : TI} (t1 : varOf TY t = some ti) {x : Operand} {id n ty es q r : Nat} {ex : Bool} (ho : ops[i]? = some o) (hg : GdOn ops X o.guard) (hop : o.op = .load t x)
 (hx : PtIs tx X x id q) (hm : X (.mt id) = .mt n ty es ex) (hq : q + ti.sz ≤ n) (hr : r < 2 ^ (72 * ti.sz)) (hc : ∀ i, i < ti.sz → X (.cl id (q + i)) = .c (cel r i)) (hd : ∀ d, o.dst = some d → d < nt ∧ X' (.tm d) = .v (shOf ti) r) :
 StpOk (Rel tx nt) P ops Q i X X' ⟨fun l => RT ops o l ∨ l = .mt id ∨ ∃ j, l = .cl id (q + j) ∧ j < ti.sz, wD o.dst, fun _ => False, fun _ => False⟩ := by
 refine stp_val ho hg (fun _ h => .inl h) rfl (fun d e => (hd d e).1) fun s Y a w hY hR => ?_
 have hm' : x ∈ o.op.operands := by rw [hop]; simp [Op.operands]
 obtain ⟨b, k, h1, h2⟩ := pt_at hR (fun t e => hY _ (.inl (.inl ⟨t, rfl, .inl (e ▸ hm')⟩))) hx
 obtain ⟨cs, hb⟩ := blk_at hR.h ((hY _ (.inl (.inr (.inl rfl)))).trans hm) h2
 obtain ⟨v, h3, h4⟩ := load_ok hT t1 hb hq hr fun i hi => (hY _ (.inl (.inr (.inr ⟨i, rfl, hi⟩)))).trans (hc i hi)
 refine ⟨v, ?_, fun d e => by rw [(hd d e).2]; exact Cl.vsh hT t1 h3⟩
 unfold execOp
 rw [hop]
 refine run_v ?_
 rw [h1]; exact h4
theorem stp_store (hT : ∀ t ti, TY.get t = some ti → tiOf P t = some ti) {t : Nat} {ti : TI} (t1 : varOf TY t = some ti) {x y : Operand} {id n ty es q r : Nat} {ex : Bool} (ho : ops[i]? = some o) (hg : GdOn ops X o.guard) (hop : o.op = .store t x y)
 (hx : PtIs tx X x id q) (hm : X (.mt id) = .mt n ty es ex) (hq : q + ti.sz ≤ n) (hy : OpdIs tx X y (shOf ti) r) (hr : r % 8 ≠ 0) (hc : ∀ i, i < ti.sz → X' (.cl id (q + i)) = .c (cel r i)) (hd : ∀ d, o.dst = some d → d < nt ∧ ∃ h, X' (.tm d) = .v h 0) :
 StpOk (Rel tx nt) P ops Q i X X' ⟨fun l => RT ops o l ∨ l = .mt id, fun l => wD o.dst l ∨ ∃ j, l = .cl id (q + j) ∧ j < ti.sz, fun j => j = id, fun _ => False⟩ := by
 refine stp_skip (p := ⟨fun l => RT ops o l ∨ l = .mt id, fun l => wD o.dst l ∨ ∃ j, l = .cl id (q + j) ∧ j < ti.sz, fun j => j = id, fun _ => False⟩) ho hg (fun _ h => .inl h) fun s Y a w hY hR _ => ?_
 have hm1 : x ∈ o.op.operands := by rw [hop]; simp [Op.operands]
 have hm2 : y ∈ o.op.operands := by rw [hop]; simp [Op.operands]
 obtain ⟨b, k, h1, h2⟩ := pt_at hR (fun t e => hY _ (.inl (.inl ⟨t, rfl, .inl (e ▸ hm1)⟩))) hx
 have hYm : Y (.mt id) = .mt n ty es ex := (hY _ (.inl (.inr rfl))).trans hm
 obtain ⟨cs, hb⟩ := blk_at hR.h hYm h2
 have hv := (opd_cl hR (fun t e => hY _ (.inl (.inl ⟨t, rfl, .inl (e ▸ hm2)⟩))) hy).1 hr
 obtain ⟨vs, h3, h4, h5, h6⟩ := store_ok hT t1 hb hq hv
 have hTr : Trs (fun j => j = id) (fun _ => False) s w s (w.setCells b q vs) := Trs.store hb.blk hb.at_ rfl
 refine ⟨_, s, ?_, hTr, hR.mk' s.le_refl ?_ (fun t ht => ?_) fun d e => ⟨(hd d e).1, ?_⟩⟩
 · unfold execOp
   rw [hop]
   simp only [h1]
   rw [Sem.run_bind, h6]; rfl
 ·
  refine RelH.store hR.h hb hYm (o := q) (vs := vs) (by omega) (fun j => over_out ?_) (fun j m hn => over_out ?_) (fun j c hj hx => ?_) h5
  · rintro (h | ⟨m, h, _⟩)
    · cases e : o.dst <;> rw [e] at h <;> cases h
    · cases h
  · rintro (h | ⟨m', h, h'⟩)
    · cases e : o.dst <;> rw [e] at h <;> cases h
    · cases h; exact hn ⟨rfl, by omega, by omega⟩
  · have e1 : over Y X' (fun l => wD o.dst l ∨ ∃ j, l = Loc.cl id (q + j) ∧ j < ti.sz) (.cl id (q + j)) = X' (.cl id (q + j)) := over_in (X := Y) (X' := X') (W := fun l => wD o.dst l ∨ ∃ j, l = Loc.cl id (q + j) ∧ j < ti.sz) (.inr ⟨j, rfl, by omega⟩)
    have hx := e1.symm.trans hx
    rw [hc j (by omega)] at hx
    cases hx
    exact ⟨vs[j], List.getElem?_eq_getElem hj, h4.2.2 j hj⟩
 ·
  refine over_out ?_
  rintro (h | ⟨m, h, _⟩)
  · cases e : o.dst with
    | none => rw [e] at h; cases h
    | some d => rw [e] at h; cases h; exact ht e
  · cases h
 · have e1 : over Y X' (fun l => wD o.dst l ∨ ∃ j, l = Loc.cl id (q + j) ∧ j < ti.sz) (.tm d) = X' (.tm d) := over_in (X := Y) (X' := X') (W := fun l => wD o.dst l ∨ ∃ j, l = Loc.cl id (q + j) ∧ j < ti.sz) (.inl (by rw [e]; rfl))
   obtain ⟨h, h'⟩ := (hd d e).2
   rw [e1, h']
   exact ⟨fun h => absurd rfl h, fun _ _ => rfl, Nat.two_pow_pos _⟩
theorem stp_new {g n ty es k r : Nat} {ex : Bool} (ho : ops[i]? = some o) (hg : GdOn ops X o.guard) (hm : X' (.mt g) = .mt n ty es ex) (hc : ∀ i, i < n → X' (.cl g i) = .c (cel r i)) (hd : ∀ d, o.dst = some d → d < nt)
 (h : ∀ s Y a w, (∀ l, RT ops o l → Y l = X l) → Rel tx nt s Y a w → ∃ (v : Value) (cs : Array Value), (execOp a.eval o).run P w = .ok (.value v) (w.alloc (.cells cs ty)) ∧ RL tx s r n cs.toList ∧ (1 ≤ es → cs.size = k * es) ∧ (∀ s' : Sg, s.le s' → s' g = some (w.heap.size, k) → ∀ d, o.dst = some d → TmIs tx s' (X' (.tm d)) v)) :
 StpOk (Rel tx nt) P ops Q i X X' ⟨RT ops o, fun l => wD o.dst l ∨ l = .mt g ∨ ∃ j, l = .cl g j ∧ j < n, fun _ => False, fun j => j = g⟩ := by
 refine stp_run (p := ⟨RT ops o, fun l => wD o.dst l ∨ l = .mt g ∨ ∃ j, l = .cl g j ∧ j < n, fun _ => False, fun j => j = g⟩) ho hg (fun _ h => h) fun s Y a w hY hR hf => ?_
 obtain ⟨v, cs, h1, h2, h3, h4⟩ := h s Y a w (fun l hl => hY l (.inl hl)) hR
 have hg0 := hf g rfl
 have hsz : cs.size = n := by have := h2.1; simpa using this
 have hle : s.le (fun i => if i = g then some (w.heap.size, k) else s i) := fun i x hx => by
  show (if i = g then _ else s i) = _
  rw [if_neg (fun e => by rw [e, hg0] at hx; cases hx)]; exact hx
 have hTr : Trs (fun _ => False) (fun j => j = g) s w (fun i => if i = g then Option.some (w.heap.size, k) else s i) (w.alloc (.cells cs ty)) := Trs.alloc (N := fun j => j = g) (w1 := w) hg0 rfl rfl rfl rfl rfl
 refine ⟨v, _, _, h1, hTr, hR.mk' hle (RelH.alloc hR.h hg0 (n := n) (es := es) (ex := ex) (fun j hj => over_out ?_) (fun j m hj => over_out ?_) ?_ (by omega) h3 (fun _ => hsz) (fun _ => hsz) (fun u hu => ?_) (fun j c hj hx => ?_) rfl) (fun t ht => over_out ?_) fun d e => ⟨hd d e, ?_⟩⟩
 · rintro (h | h | ⟨m, h, _⟩)
   · cases e : o.dst <;> rw [e] at h <;> cases h
   · cases h; exact hj rfl
   · cases h
 · rintro (h | h | ⟨m, h, _⟩)
   · cases e : o.dst <;> rw [e] at h <;> cases h
   · cases h
   · cases h; exact hj rfl
 · exact (over_in (X := Y) (X' := X') (W := fun l => wD o.dst l ∨ l = Loc.mt g ∨ ∃ j, l = Loc.cl g j ∧ j < n) (.inr (.inl rfl))).trans hm
 · obtain ⟨j, hj, e⟩ := Array.getElem_of_mem hu
   have := h2.2.2 j (by simpa using hj)
   simp only [Array.getElem_toList] at this
   rw [e] at this
   exact this.one.2
 ·
  have e1 : over Y X' (fun l => wD o.dst l ∨ l = Loc.mt g ∨ ∃ j, l = Loc.cl g j ∧ j < n) (.cl g j) = X' (.cl g j) := over_in (X := Y) (X' := X') (W := fun l => wD o.dst l ∨ l = Loc.mt g ∨ ∃ j, l = Loc.cl g j ∧ j < n) (.inr (.inr ⟨j, rfl, hj⟩))
  have hx := e1.symm.trans hx
  rw [hc j hj] at hx
  cases hx
  have := h2.2.2 j (by simp; omega)
  simp only [Array.getElem_toList] at this
  exact ⟨cs[j], Array.getElem?_eq_getElem (by omega), this⟩
 ·
  rintro (h | h | ⟨m, h, _⟩)
  · cases e : o.dst with
    | none => rw [e] at h; cases h
    | some d => rw [e] at h; cases h; exact ht e
  · cases h
  · cases h
 · rw [over_in (X := Y) (X' := X') (W := fun l => wD o.dst l ∨ l = Loc.mt g ∨ ∃ j, l = Loc.cl g j ∧ j < n) (.inl (by rw [e]; rfl))]
   exact h4 _ hle (if_pos rfl) d e
end
end Go.Proofs.YtehpobojopmilaaGreat.Ev
namespace Go.Proofs.YtehpobojopmilaaGreat.Ev
set_option linter.unusedVariables false
set_option linter.unusedSimpArgs false
open Go
set_option maxRecDepth 4000
def AlOk (P : Program) (tx : Tx) (L : T Ly) (A : List Al) (G : Option (Nat × Bool)) (op : Op) (fr nx r : Nat) (bk : Blk) : Prop := bk.ex = true ∧ ∃ k, ∀ (s : Sg) (ρ : Operand → Value) (w : World), (∀ o, o ∈ op.operands → ∀ x, cOd tx L A G o = some x → Cl tx s x.h (x.o fr) (ρ o)) →
 ∃ v cs, (∀ o : Oper, o.op = op → (execOp ρ o).run P w = .ok (.value v) (w.alloc (.cells cs bk.ty))) ∧ RL tx s bk.c bk.n cs.toList ∧ (1 ≤ bk.es → cs.size = k * bk.es) ∧ ∀ s' : Sg, s' nx = some (w.heap.size, k) → nx < 1048575 → RC tx s' r v
theorem encP_eq (id : Nat) : encP id 0 = 8 * (id + 1 + 0 * 1048576) + 6 := by
 show 8 * ((id + 1) + 0 <<< 20) + 6 = _
 simp
theorem repz_cel {z sz : Nat} (hz : z < 2 ^ (72 * sz)) : ∀ (n : Nat), repz z sz n < 2 ^ (72 * (n * sz)) ∧ ∀ j, j < n * sz → cel (repz z sz n) j = cel z (j % sz)
 | 0 => ⟨by show 0 < _; exact Nat.two_pow_pos _, fun j hj => by omega⟩
 | n + 1 => by
  obtain ⟨h1, h2⟩ := repz_cel hz n
  have e : repz z sz (n + 1) = Nat.lor z (Nat.shiftLeft (repz z sz n) (72 * sz)) := add_app hz
  have e2 : (n + 1) * sz = sz + n * sz := by rw [Nat.add_mul]; omega
  rw [e, e2]
  refine ⟨app_lt hz h1, fun j hj => ?_⟩
  rw [cel_app hz]
  by_cases h : j < sz
  · rw [if_pos h, Nat.mod_eq_of_lt h]
  · rw [if_neg h, h2 (j - sz) (by omega)]
    congr 1
    have : j = (j - sz) + sz := by omega
    rw [this, Nat.add_mod_right]; simp
section
variable {P : Program} {TY : T TI} {tx : Tx} {L : T Ly} {A : List Al} {G : Option (Nat × Bool)} {fr nx : Nat} {κ : Nat → Blk → Bool} {hs : Sh}
theorem cEls_ok {s : Sg} {ρ : Operand → Value} {te : TI} {len : Nat} {ag : Bool} (hsh : shOf te = shP te.sz ag) (h1 : ag = false → te.sz = 1) :
 ∀ (ps : List (Nat × Operand)) (l : List Pa), cEls tx L A G te len ps = some l → (∀ p ∈ ps, ∀ x, cOd tx L A G p.2 = some x → Cl tx s x.h (x.o fr) (ρ p.2)) → All2 (PartIs tx s fr (len * te.sz) (fun i => some (i * te.sz, te.sz))) l (ps.map fun p => (p.1, ρ p.2))
 | [], l, h, _ => by
  rw [cEls] at h
  cases h
  exact .nil
 | (i, o) :: ps, l, h, hρ => by
  rw [cEls] at h
  obtain ⟨h0, h⟩ := iff_some h
  obtain ⟨x, hx, h2, h⟩ := bod_some h
  obtain ⟨h3, h⟩ := iff_some h
  obtain ⟨l', h4, h⟩ := bnd_some h
  simp only [str_eq] at h
  cases h
  have k := hρ (i, o) List.mem_cons_self _ h2
  have e := shEq_eq h3
  rw [hsh] at e
  have h0 : i + 1 ≤ len := ble_t h0
  refine .cons ⟨i * te.sz, te.sz, ag, rfl, rfl, rfl, ?_, h1, by rw [← e]; exact k⟩ (cEls_ok hsh h1 ps l' h4 fun p hp' => hρ p (List.mem_cons_of_mem _ hp'))
  have := Nat.mul_le_mul_right te.sz h0
  rw [Nat.add_mul, Nat.one_mul] at this
  exact this
theorem al_ok (hT : ∀ t ti, TY.get t = some ti → tiOf P t = some ti) {op : Op} {g : Nat → Nat → (Nat → Blk → Bool) → Bool} (h : cOp P TY tx L A G false op = some ⟨.al g, hs⟩) (hg : g fr nx κ = true) : hs = .c ∧ ∃ r bk, κ r bk = true ∧ AlOk P tx L A G op fr nx r bk := by
 have hk : isNew op := cOp_kd op _ h
 cases op with
 | alloc t =>
  rw [cOp] at h
  obtain ⟨ti, t1, h⟩ := bnd_some h
  have h := Option.some.inj h
  cases h
  refine ⟨rfl, _, _, hg, rfl, 0, fun s ρ w _ => ?_⟩
  obtain ⟨_, ag, i, z, g1, g2, g3, g4⟩ := varTy hT t1
  refine ⟨.pointer (some ⟨w.heap.size, 0, none⟩), z.cells, fun o ho => ?_, g4.rl tx s, fun h => absurd h (Nat.not_succ_le_zero 0), fun s' h1 h2 => ?_⟩
  · unfold execOp
    rw [ho]
    refine run_v ?_
    simp [Instr.alloc, newVar, newRow, zeroValue, typeInfo, g4.info, g4.zero, go_sem]
  · rw [encP_eq]
    exact .p nx 0 _ _ h1 h2 (by omega)
 | box t x =>
  rw [cOp] at h
  obtain ⟨ti, t1, h⟩ := bnd_some h
  obtain ⟨ox, h1, h⟩ := bnd_some h
  obtain ⟨h3, h⟩ := iff_some h
  have h := Option.some.inj h
  cases h
  unfold eBox at hg
  rw [str_eq] at hg
  obtain ⟨h0, hk⟩ := df_t hg
  refine ⟨rfl, _, _, hk, rfl, 0, fun s ρ w hρ => ?_⟩
  obtain ⟨_, ag, i, z, g1, g2, g3, g4⟩ := varTy hT t1
  have k1 := (hρ x (by simp [Op.operands]) _ h1).1 h0
  rw [shEq_eq h3, g1] at k1
  obtain ⟨f1, f2, f3⟩ := VR.cells k1 g3
  refine ⟨.pointer (some ⟨w.heap.size, 0, none⟩), (ρ x).cells, fun o ho => ?_, f1, fun h => absurd h (Nat.not_succ_le_zero 0), fun s' h1 h2 => ?_⟩
  · unfold execOp
    rw [ho]
    refine run_v ?_
    simp [Instr.box, newVar, newRow, go_sem]
    rfl
  · rw [encP_eq]
    exact .p nx 0 _ _ h1 h2 (by omega)
 | buildSlice t len ps =>
  rw [cOp] at h
  obtain ⟨h0, h⟩ := iff_some h
  obtain ⟨ti, t1, h⟩ := bnd_some h
  obtain ⟨e, t2, h⟩ := bnd_some h
  obtain ⟨te, t3, h⟩ := bnd_some h
  obtain ⟨l, h1, h⟩ := bnd_some h
  simp only [str_eq] at h
  have h := Option.some.inj h
  cases h
  unfold eBuildS at hg
  obtain ⟨r, hr, hh⟩ := parts_ok l _ hg
  refine ⟨rfl, _, _, hr, rfl, len, fun s ρ w hρ => ?_⟩
  have h0 : len ≤ 4094 := ble_t h0
  obtain ⟨u1, i, u2, u3, u4, u5, u6⟩ := slTy hT t1 t2 t3
  have t3' := t3
  unfold elOf at t3'
  obtain ⟨te', t7, t3'⟩ := bnd_some t3'
  obtain ⟨_, t3'⟩ := iff_some t3'
  obtain ⟨_, t3'⟩ := iff_some t3'
  cases t3'
  obtain ⟨_, ag, i', z, g1, g2, g3, g4⟩ := varTy hT t7
  have hi : i = i' := by have := g4.info; rw [u2] at this; exact Option.some.inj this
  subst hi
  have hz := g4.rl tx s
  have hzs : z.cells.size = te.sz := g4.zsize
  obtain ⟨c1, c2⟩ := repz_cel hz.2.1 len
  let zs : Array Value := (Array.range (len * te.sz)).map (fun j => z.cells[j % z.cells.size]!)
  have hzl : RL tx s (repz te.zero te.sz len) (len * te.sz) zs.toList := by
   refine ⟨by simp [zs], c1, fun j hj => ?_⟩
   have hj' : j < len * te.sz := by simpa [zs] using hj
   rw [c2 j hj']
   have hm : j % te.sz < te.sz := Nat.mod_lt _ (by omega)
   have := hz.2.2 (j % te.sz) (by simpa [hzs] using hm)
   simp only [zs, Array.getElem_toList, Array.getElem_map, Array.getElem_range, hzs]
   rw [getElem!_pos z.cells (j % te.sz) (by omega)]
   simpa using this
  have hall := cEls_ok (s := s) (ρ := ρ) (fr := fr) (len := len) g1 g3 ps.toList l h1 fun p hp x hx => hρ p.2 (by simp [Op.operands]; exact ⟨p.1, by simpa using hp⟩) x hx
  obtain ⟨cs, f1, f2⟩ := hh tx s (len * te.sz) _ _ zs hall hzl
  have hcs : cs.size = len * te.sz := by have := f2.1; simpa using this
  refine ⟨.slice (some ⟨w.heap.size, 0, none⟩) len len, cs, fun o ho => ?_, f2, fun _ => hcs, fun s' k1 k2 => ?_⟩
  ·
   unfold execOp
   rw [ho]
   refine run_v ?_
   unfold Instr.buildSlice
   rw [Sem.run_bind, run_underlying u1 w]
   simp only [Result.andThen_ok]
   rw [Sem.run_bind, show (sizeOf e).run P w = .ok te.sz w by simp [sizeOf, typeInfo, u2, u3, go_sem]]
   simp only [Result.andThen_ok]
   have hlt : ¬ len * te.sz > 2 ^ 24 := by
    have : len * te.sz ≤ 4094 * 4095 := Nat.mul_le_mul h0 u5
    omega
   rw [if_neg hlt]
   have hl : (ps.map fun (i, x) => (i, ρ x)).toList = ps.toList.map fun p => (p.1, ρ p.2) := by simp
   by_cases hz0 : len * te.sz = 0
   ·
    have he : len = 0 := by
     rcases Nat.mul_eq_zero.1 hz0 with h | h
     · exact h
     · omega
    subst he
    have hzz : zs = (Array.range (0 * te.sz)).map (fun j => (#[] : Array Value)[j % (#[] : Array Value).size]!) := by simp [zs]
    rw [hzz] at f1
    have hn : (Array.map (fun j => (#[] : Array Value)[j % (#[] : Array Value).size]!) (Array.range (0 * te.sz))) = #[] := by simp
    rw [hn] at f1
    rw [if_pos hz0, hl]
    simp [f1, newRow, go_sem]
    rfl
   ·
    rw [if_neg hz0]
    have hzv : (zeroValue e).run P w = .ok z w := run_zero g4.info g4.zero
    have f1' : Instr.fill (fun i => some (i * te.sz, te.sz)) (Array.map (fun x => z.cells[x % z.cells.size]!) (Array.range (len * te.sz))) (List.map (fun p => (p.1, ρ p.2)) ps.toList) = some cs := f1
    rw [hl]
    simp only [Sem.run_bind, hzv, Result.andThen_ok, Sem.run_pure]
    rw [f1']
    simp [newRow, go_sem]
    rfl
  · rw [encL_eq]
    have := RC.l (tx := tx) (s := s') nx 0 len te.sz _ _ k1 k2 (by omega) (by omega) (by omega) (by omega) (by simp only [maxLen]; omega)
    simpa using this
 | _ => exact hk.elim
end
end Go.Proofs.YtehpobojopmilaaGreat.Ev
namespace Go.Proofs.YtehpobojopmilaaGreat.Ev
set_option linter.unusedVariables false
set_option linter.unusedSimpArgs false
open Go
set_option maxRecDepth 4000
structure HeapAt (X : Loc → Vl) (id : Nat) (bk : Blk) : Prop where
 mt : X (.mt id) = .mt bk.n bk.ty bk.es bk.ex
 cl : ∀ i, i < bk.n → X (.cl id i) = .c (cel bk.c i)
 n : bk.n ≤ 4094
 lt : bk.c < 2 ^ (72 * bk.n)
structure HeapIs (X : Loc → Vl) (h : HT) (nx : Nat) : Prop where
 at_ : ∀ id bk, T.get h id = some bk → id < nx ∧ HeapAt X id bk
 no : ∀ id, id < nx → T.get h id = none → X (.mt id) = .no
 nx : nx ≤ 1000001
theorem getK_some {α : Type} : ∀ {t : T α} {k : Nat} {κ : α → Bool}, T.getK t k κ = true → ∃ x, T.get t k = some x ∧ κ x = true := by
 intro t
 induction t with
 | e => intro k κ h; cases h
 | n x l r ihl ihr =>
  intro k κ h
  cases k with
  | zero =>
   have h : Option.rec false κ x = true := h
   cases x with
   | none => cases h
   | some y => exact ⟨y, rfl, h⟩
  | succ k =>
   have h : Nat.rec (motive := fun _ => Bool) (T.getK l (Nat.div k 2) κ) (fun _ _ => T.getK r (Nat.div k 2) κ) (Nat.mod k 2) = true := h
   have e : T.get (.n x l r) (k + 1) = Nat.rec (motive := fun _ => Option α) (T.get l (Nat.div k 2)) (fun _ _ => T.get r (Nat.div k 2)) (Nat.mod k 2) := rfl
   rw [e]
   cases hm : Nat.mod k 2 with
   | zero => rw [hm] at h; exact ihl h
   | succ q => rw [hm] at h; exact ihr h
theorem acc_ok {id co n : Nat} (hc : co < 16777216) (hn : n < 4096) : accI (acc id co n) = id ∧ accC (acc id co n) = co ∧ accN (acc id co n) = n := by
 have e : acc id co n = (id * 16777216 + co) * 4096 + n := by
  show ((id <<< 24 + co) <<< 12) + n = _
  rw [Nat.shiftLeft_eq, Nat.shiftLeft_eq]
 rw [e]
 refine ⟨?_, ?_, ?_⟩
 · unfold accI; rw [shr]; omega
 · unfold accC; rw [shr, show (16777215 : Nat) = 2 ^ 24 - 1 from rfl, land_mod]; omega
 · unfold accN; rw [show (4095 : Nat) = 2 ^ 12 - 1 from rfl, land_mod]; omega
def numN : List Nat → Nat
 | [] => 0
 | x :: r => x + 256 * numN r
theorem numN_app : ∀ (l : List Nat) (x : Nat), numN (l ++ [x]) = numN l + 256 ^ l.length * x
 | [], x => by simp [numN]
 | y :: r, x => by
  simp only [List.cons_append, numN, numN_app r x, List.length_cons, Nat.pow_succ]
  rw [Nat.mul_add, Nat.add_assoc, ← Nat.mul_assoc, Nat.mul_comm 256 (256 ^ r.length)]
theorem byts_ok {c : Nat} {κ : KN} : ∀ (n m a : Nat), byts c κ n m a = true → (∀ i, i < n → cel c i % 8 = 3) ∧ κ (numN ((List.range n).map fun i => cel c i / 8) + 256 ^ n * a) = true
 | 0, m, a, h => by
  refine ⟨fun i hi => by omega, ?_⟩
  have h : κ a = true := h
  simpa [numN] using h
 | n + 1, m, a, h => by
  have h : tag (spn c (72 * n) 4722366482869645213695) 3 (byts c κ n n (256 * a + Nat.shiftRight (spn c (72 * n) 4722366482869645213695) 3)) = true := h
  have e : spn c (72 * n) 4722366482869645213695 = cel c n := by
   have := spn_eq c (72 * n) 1
   exact this
  have e8 : cel c n / 2 ^ 3 = cel c n / 8 := rfl
  rw [e, shr, e8] at h
  obtain ⟨h1, h2⟩ := tag_t h
  obtain ⟨h3, h4⟩ := byts_ok n n _ h2
  refine ⟨fun i hi => ?_, ?_⟩
  · by_cases hin : i = n
    · subst hin; exact h1
    · exact h3 i (by omega)
  · rw [List.range_succ, List.map_append, List.map_singleton, numN_app]
    simp only [List.length_map, List.length_range]
    have e2 : numN (List.map (fun i => cel c i / 8) (List.range n)) + 256 ^ n * (256 * a + cel c n / 8) = numN (List.map (fun i => cel c i / 8) (List.range n)) + 256 ^ n * (cel c n / 8) + 256 ^ (n + 1) * a := by
     rw [Nat.mul_add, Nat.pow_succ 256 n, ← Nat.mul_assoc]; omega
    rw [← e2]; exact h4
theorem numN_U : ∀ (l : List Nat), (∀ x ∈ l, x < 256) → numU (l.map UInt8.ofNat) = numN l
 | [], _ => rfl
 | x :: r, h => by
  have h1 := h x List.mem_cons_self
  have h2 := numN_U r fun y hy => h y (List.mem_cons_of_mem _ hy)
  simp only [List.map_cons, numU, numN, h2]
  have : (UInt8.ofNat x).toNat = x := by simp; omega
  rw [this]
section
variable {P : Program} {TY : T TI} {tx : Tx} {nt : Nat} {L : T Ly} {A : List Al} {G : Option (Nat × Bool)} {fr nx : Nat} {h : HT} {hs : Sh} {ld : Bool} {X : Loc → Vl}
def RdOk (P : Program) (tx : Tx) (nt : Nat) (L : T Ly) (A : List Al) (G : Option (Nat × Bool)) (fr : Nat) (X : Loc → Vl) (op : Op) (hs : Sh) (r id co n : Nat) : Prop :=
 ∀ (ops : Array Oper) (i : Nat) (o : Oper) (X' : Loc → Vl) (Q : Exit → Act → World → Prop), ops[i]? = some o → o.op = op → o.guard = G → GdOn ops X o.guard → (∀ x, x ∈ o.op.operands → ∀ y, cOd tx L A G x = some y → OpdIs tx X x y.h (y.o fr)) → (∀ d, o.dst = some d → d < nt ∧ X' (.tm d) = .v hs r) →
  StpOk (Rel tx nt) P ops Q i X X' ⟨fun l => RT ops o l ∨ l = .mt id ∨ ∃ j, l = .cl id j ∧ co ≤ j ∧ j < co + n, wD o.dst, fun _ => False, fun _ => False⟩
theorem rd_ok (hT : ∀ t ti, TY.get t = some ti → tiOf P t = some ti) {op : Op} {g : Nat → HT → (Nat → Nat → Bool) → Bool} {κ : Nat → Nat → Bool} (h0 : cOp P TY tx L A G ld op = some ⟨.rd g, hs⟩) (hg : g fr h κ = true) (hH : HeapIs X h nx) :
 ∃ r id co n, κ r (acc id co n) = true ∧ id < nx ∧ 1 ≤ n ∧ co + n ≤ 4095 ∧ RdOk P tx nt L A G fr X op hs r id co n := by
 have hk : isRd op := cOp_kd op _ h0
 cases op with
 | load t x =>
  rw [cOp] at h0
  obtain ⟨ti, t1, h0⟩ := bnd_some h0
  cases e : adr tx L A G x with
  | some p =>
   rw [e] at h0
   obtain ⟨_, h0⟩ := iff_some h0
   cases h0
  | none =>
   rw [e] at h0
   obtain ⟨ox, h1, h0⟩ := boc_some h0
   simp only [str_eq] at h0
   cases h0
   unfold eLoad at hg
   obtain ⟨c0, id, co, hg, hp⟩ := pt_ok hg
   obtain ⟨bk, h2, hg⟩ := getK_some hg
   obtain ⟨h3, hg⟩ := iff_tt hg
   have h3 : co + ti.sz ≤ bk.n := ble_t h3
   obtain ⟨h4, h5⟩ := hH.at_ id bk h2
   have := h5.n
   refine ⟨_, id, co, ti.sz, hg, h4, varPos t1, by omega, fun ops i o X' Q ho hop hG hgd hcl hd => ?_⟩
   have hx : PtIs tx X x id co := .inr ⟨ox fr, hcl x (by rw [hop]; simp [Op.operands]) _ h1, fun s v hv => by
     obtain ⟨b, k, e1, e2, _⟩ := hp tx s v hv
     exact ⟨b, k, e1, e2⟩⟩
   refine StpOk.weak (stp_load hT t1 ho hgd hop hx h5.mt h3 (spn_lt _ _ _) (fun i hi => ?_) hd) (fun l hl => ?_) (fun _ h => h) (fun l hl hn => absurd hl hn) (fun _ h => h) (fun _ h => h)
   · rw [h5.cl (co + i) (by omega)]
     show _ = Vl.c (cel (spn bk.c (72 * co) (mk ti.sz)) i)
     rw [cel_spn' hi]
   · rcases hl with hl | hl | ⟨j, hl, hj⟩
     · exact .inl (.inl hl)
     · exact .inl (.inr (.inl hl))
     · exact .inl (.inr (.inr ⟨co + j, hl, by omega, by omega⟩))
 | convert s d x =>
  rw [cOp] at h0
  obtain ⟨t1, k1, h0⟩ := bnd_some h0
  obtain ⟨t2, k2, h0⟩ := bnd_some h0
  obtain ⟨ox, h1, h0⟩ := boc_some h0
  unfold cConv at h0
  split at h0
  · cases h0
  · cases h0
  ·
   rename_i e e1 e2
   obtain ⟨te, k3, h0⟩ := bnd_some h0
   obtain ⟨k4, h0⟩ := iff_some h0
   have h0 := Option.some.inj h0
   cases h0
   unfold eConvB at hg
   obtain ⟨c0, id, eo, n, es, hg1, hp⟩ := sl_ok hg
   obtain ⟨h2, hg2⟩ := iff_tt hg1
   obtain ⟨h3, hg3⟩ := iff_tt hg2
   obtain ⟨bk, h4, hg4⟩ := getK_some hg3
   obtain ⟨h5, hg5⟩ := iff_tt hg4
   obtain ⟨h6, hg6⟩ := byts_ok _ _ _ hg5
   have h2 := beq_t h2
   have h3 : n ≤ 8 := ble_t h3
   have h5 : eo + n ≤ bk.n := ble_t h5
   subst h2
   obtain ⟨h7, h8⟩ := hH.at_ id bk h4
   refine ⟨_, id, 0, 4095, hg6, h7, by omega, by omega, fun ops i o X' Q ho hop hG hgd hcl hd => ?_⟩
   have u1 : P.underlying s = some (.slice e) := slTy' hT k1 e1
   have u2 : P.underlying d = some .string := strTy hT k2 (by unfold isStr; rw [e2])
   have u3 : P.underlying e = some (.int .u8) := itTy hT k3 (by unfold isU8 at k4; split at k4 <;> first | assumption | cases k4)
   refine stp_val ho hgd (fun _ h => .inl h) rfl (fun d e => (hd d e).1) fun s' Y a w hY hr => ?_
   have hcx := opd_cl hr (fun t e => hY _ (.inl (.inl ⟨t, rfl, .inl (by rw [hop, ← e]; simp [Op.operands])⟩))) (hcl x (by rw [hop]; simp [Op.operands]) _ h1)
   obtain ⟨b, k, e3, e4, _⟩ := hp tx s' _ hcx
   obtain ⟨cs, hb⟩ := blk_at hr.h ((hY _ (.inl (.inr (.inl rfl)))).trans h8.mt) e4
   have hcel : ∀ j, cel (Nat.shiftRight bk.c (72 * eo)) j = cel bk.c (eo + j) := fun j => cel_eq fun q _ => by
    show (bk.c >>> (72 * eo)).testBit _ = _
    rw [Nat.testBit_shiftRight]; congr 1; omega
   have hby : ∀ j, j < n → ∃ m : Nat, cs[eo + j]? = some (.int .u8 m) ∧ m = cel bk.c (eo + j) / 8 ∧ m < 256 := fun j hj => by
    have hn := h8.n
    obtain ⟨v, f1, f2⟩ := hb.cl (eo + j) _ (by omega) ((hY _ (.inl (.inr (.inr ⟨eo + j, rfl, by omega, by omega⟩)))).trans (h8.cl _ (by omega)))
    have f3 : cel (Nat.shiftRight bk.c (72 * eo)) j % 8 = 3 := h6 j hj
    rw [hcel] at f3
    obtain ⟨m, rfl, f4, f5⟩ := f2.t3 f3
    exact ⟨m, f1, by omega, f5⟩
   let ms : List Nat := (List.range n).map fun j => cel bk.c (eo + j) / 8
   have hms : ∀ x ∈ ms, x < 256 := fun x hx => by
    obtain ⟨j, hj, rfl⟩ := List.mem_map.1 hx
    obtain ⟨m, _, e, h⟩ := hby j (List.mem_range.1 hj)
    rw [← e]; exact h
   have hrun := run_convert_bytes_arg (P := P) w s e u1 u3 b (eo * 1) n (k - eo) (ms.map fun m : Nat => (m : Int)) (by simp [ms]) (fun j hj => by
     obtain ⟨m, f1, f2, f3⟩ := hby j hj
     simp only [World.cell?, hb.blk, Nat.mul_one]
     simp only [Option.isSome_none, Bool.false_eq_true, if_false]
     rw [f1]
     simp [ms, List.getD, hj, f2]) d u2
   refine ⟨.string (strOfNums (ms.map fun m : Nat => (m : Int))), ?_, fun d' e => ?_⟩
   · unfold execOp
     rw [hop]
     refine run_v ?_
     simp only [e3]
     exact hrun
   ·
    rw [(hd d' e).2]
    refine Cl.of ?_
    have e5 : strOfNums (ms.map fun m : Nat => (m : Int)) = ⟨⟨ms.map UInt8.ofNat⟩⟩ := by
     simp [strOfNums, List.map_map, Function.comp_def]
    rw [e5]
    have e6 : (List.map (fun i => cel (Nat.shiftRight bk.c (72 * eo)) i / 8) (List.range n)) = ms := List.map_congr_left fun j _ => by rw [hcel]
    have := RC.s (tx := tx) (s := s') (ms.map UInt8.ofNat) (by simp [ms]; exact h3)
    rw [numN_U ms hms] at this
    show RC tx s' (encS n (numN (List.map (fun i => cel (Nat.shiftRight bk.c (72 * eo)) i / 8) (List.range n)) + 256 ^ n * 0)) _
    rw [e6]
    have e7 : encS n (numN ms + 256 ^ n * 0) = 8 * ((ms.map UInt8.ofNat).length + 16 * numN ms) + 4 := by
     simp [encS, ms]
    rw [e7]; exact this
  · cases h0
 | _ => exact hk.elim
end
end Go.Proofs.YtehpobojopmilaaGreat.Ev
namespace Go.Proofs.YtehpobojopmilaaGreat.Ev
set_option linter.unusedVariables false
set_option linter.unusedSimpArgs false
open Go
set_option maxRecDepth 4000
def cov (q : Nat) : Loc → Prop
 | .tm _ => False
 | .mt id => accI q = id
 | .cl id k => accI q = id ∧ accC q ≤ k ∧ k < accC q + accN q
section
variable {P : Program} {TY : T TI} {tx : Tx} {nt : Nat} {L : T Ly} {A : List Al} {G : Option (Nat × Bool)} {fr nx : Nat} {h : HT} {hs : Sh} {ld : Bool} {X : Loc → Vl}
theorem opd_lt (hl : ∃ s a w, Rel tx nt s X a w) {x : Operand} {hs : Sh} {c : Nat} (k : OpdIs tx X x hs c) : c < 2 ^ (72 * hs.sz) := by
 obtain ⟨s, a, w, hr⟩ := hl
 exact (opd_cl hr (fun _ _ => rfl) k).2.2
def StOk (P : Program) (tx : Tx) (nt : Nat) (L : T Ly) (A : List Al) (G : Option (Nat × Bool)) (fr : Nat) (X : Loc → Vl) (op : Op) (r id co n : Nat) : Prop :=
 ∀ (ops : Array Oper) (i : Nat) (o : Oper) (X' : Loc → Vl) (Q : Exit → Act → World → Prop), ops[i]? = some o → o.op = op → o.guard = G → GdOn ops X o.guard → (∀ x, x ∈ o.op.operands → ∀ y, cOd tx L A G x = some y → OpdIs tx X x y.h (y.o fr)) → (∀ d, o.dst = some d → d < nt ∧ ∃ h, X' (.tm d) = .v h 0) → (∀ i, i < n → X' (.cl id (co + i)) = .c (cel r i)) →
  StpOk (Rel tx nt) P ops Q i X X' ⟨fun l => RT ops o l ∨ l = .mt id, fun l => wD o.dst l ∨ ∃ j, l = .cl id (co + j) ∧ j < n, fun j => j = id, fun _ => False⟩
theorem st_ok (hT : ∀ t ti, TY.get t = some ti → tiOf P t = some ti) {op : Op} {g : Nat → HT → (Nat → Nat → Blk → Bool) → Bool} {κ : Nat → Nat → Blk → Bool} (h0 : cOp P TY tx L A G ld op = some ⟨.st g, hs⟩) (hg : g fr h κ = true) (hH : HeapIs X h nx) (hl : ∃ s a w, Rel tx nt s X a w)
 (hcl : ∀ x, x ∈ op.operands → ∀ y, cOd tx L A G x = some y → OpdIs tx X x y.h (y.o fr)) :
 hs = .t [] ∧ ∃ r id co n bk, T.get h id = some bk ∧ 1 ≤ n ∧ co + n ≤ bk.n ∧ r < 2 ^ (72 * n) ∧ κ id (acc id co n) ⟨put bk.c (72 * co) (mk n) r, bk.n, bk.ty, bk.es, bk.ex⟩ = true ∧ StOk P tx nt L A G fr X op r id co n := by
 have hk : isSto op := cOp_kd op _ h0
 cases op with
 | store t a x =>
  rw [cOp] at h0
  obtain ⟨ti, t1, h0⟩ := bnd_some h0
  obtain ⟨oa, h1, h0⟩ := boc_some h0
  obtain ⟨ox, h2, h0⟩ := bnd_some h0
  obtain ⟨h3, h0⟩ := iff_some h0
  simp only [str_eq] at h0
  have h0 := Option.some.inj h0
  cases h0
  have h3 := shEq_eq h3
  unfold eStore at hg
  obtain ⟨d0, hg1⟩ := df_t hg
  obtain ⟨c0, id, co, hg2, hp⟩ := pt_ok hg1
  obtain ⟨bk, h4, hg3⟩ := getK_some hg2
  obtain ⟨h5, hg4⟩ := iff_tt hg3
  have h5 : co + ti.sz ≤ bk.n := ble_t h5
  obtain ⟨h6, h7⟩ := hH.at_ id bk h4
  have hsz : (shOf ti).sz = ti.sz := by
   obtain ⟨_, ag, i, z, g1, g2, g3, g4⟩ := varTy hT t1
   rw [g1]
   cases ag with
   | true => rfl
   | false => exact (g3 rfl).symm
  have hlt := opd_lt hl (hcl x (by simp [Op.operands]) _ h2)
  rw [h3, hsz] at hlt
  refine ⟨rfl, ox.o fr, id, co, ti.sz, bk, h4, varPos t1, h5, hlt, hg4, fun ops i o X' Q ho hop hG hgd hcl hd hc => ?_⟩
  have hx : PtIs tx X a id co := .inr ⟨oa fr, hcl a (by rw [hop]; simp [Op.operands]) _ h1, fun s v hv => by
    obtain ⟨b, k, e1, e2, _⟩ := hp tx s v hv
    exact ⟨b, k, e1, e2⟩⟩
  have hy := hcl x (by rw [hop]; simp [Op.operands]) _ h2
  rw [h3] at hy
  exact stp_store hT t1 ho hgd hop hx h7.mt h5 hy d0 hc hd
 | _ => exact hk.elim
end
end Go.Proofs.YtehpobojopmilaaGreat.Ev
namespace Go.Proofs.YtehpobojopmilaaGreat.Ev
set_option linter.unusedVariables false
set_option linter.unusedSimpArgs false
open Go
set_option maxRecDepth 4000
section
variable {tx : Tx} {s : Sg} {X X' : Loc → Vl} {w : World}
theorem RelH.grow (h : RelH tx s X w) {id g n ty es b k : Nat} {cs : Array Value} {vs : List Value} (hb : BlkIs tx s w X id n ty es false b k cs) (hl : X (.mt id) = .mt n ty es false) (he : 1 ≤ es) (hg : s g = none) (hfit : n + vs.length ≤ cs.size)
 (h1 : X' (.mt g) = .mt (n + vs.length) ty es false) (h2 : X' (.mt id) = .no) (hm : ∀ i, i ≠ g → i ≠ id → X' (.mt i) = X (.mt i)) (hc : ∀ i j, i ≠ g → X' (.cl i j) = X (.cl i j)) (oc : ∀ u ∈ vs, u.oneCell' = true)
 (hcl : ∀ j c, j < n + vs.length → X' (.cl g j) = .c c → ∃ v, (if j < n then cs[j]? else vs[j - n]?) = some v ∧ RC tx s c v) : RelH tx (fun i => if i = g then some (b, k) else s i) X' (w.setCells b n vs) := by
 have hs : s.le (fun i => if i = g then some (b, k) else s i) := fun i x hx => by
  show (if i = g then _ else s i) = _
  rw [if_neg (fun e => by rw [e, hg] at hx; cases hx)]; exact hx
 have hgi : id ≠ g := fun e => by have := hb.at_; rw [e, hg] at this; cases this
 obtain ⟨cs', g1, g2, g3, _, _, _, g4, g5⟩ := setCells_at b vs n w cs ty (0, 0) hb.blk
 refine ⟨fun i m t e x hx => ?_, fun i j c q q' hi hj hsi hsj => ?_, fun i c q hsi => ?_⟩
 ·
  by_cases e1 : i = g
  ·
   subst e1
   rw [h1] at hx
   cases hx
   refine ⟨b, k, cs', if_pos rfl, g1, by rw [g2]; exact hfit, fun _ => by rw [g2]; exact hb.cap he, fun h => by omega, (fun h => by cases h), fun u hu => ?_, fun j c hj hx => ?_⟩
   · obtain ⟨j, hj, e⟩ := Array.getElem_of_mem hu
     have e3 := g3 j
     rw [Array.getElem?_eq_getElem hj, e] at e3
     by_cases hin : n ≤ j ∧ j < n + vs.length ∧ j < cs.size
     · rw [if_pos hin] at e3; exact oc u (List.mem_of_getElem? e3.symm)
     · rw [if_neg hin] at e3; exact hb.oc u (Array.mem_of_getElem? e3.symm)
   ·
    obtain ⟨v, h3, h4⟩ := hcl j c hj hx
    refine ⟨v, ?_, h4.mono hs⟩
    rw [g3 j]
    by_cases hjn : j < n
    · rw [if_pos hjn] at h3
      rw [if_neg (by omega)]; exact h3
    · rw [if_neg hjn] at h3
      rw [if_pos (by omega)]; exact h3
  · by_cases e2 : i = id
    · subst e2; rw [h2] at hx; cases hx
    · rw [hm i e1 e2] at hx
      obtain ⟨b', q, cs'', g'⟩ := h.bl i m t e x hx
      have hne : b' ≠ b := fun e3 => e2 (h.inj i id b q k (by rw [hx]; intro h; cases h) (by rw [hl]; intro h; cases h) (by rw [← e3]; exact g'.at_) hb.at_)
      exact ⟨b', q, cs'', g'.mono hs (g5 b' hne) fun j c _ hx => by rw [hc _ _ e1] at hx; exact hx⟩
 ·
  by_cases e1 : i = g <;> by_cases e2 : j = g
  · rw [e1, e2]
  · rw [if_pos e1] at hsi; rw [if_neg e2] at hsj
    cases hsi
    have e3 : j ≠ id := fun e => hj (by rw [e]; exact h2)
    rw [hm j e2 e3] at hj
    exact absurd (h.inj j id _ _ _ hj (by rw [hl]; intro h; cases h) hsj hb.at_) e3
  · rw [if_neg e1] at hsi; rw [if_pos e2] at hsj
    cases hsj
    have e3 : i ≠ id := fun e => hi (by rw [e]; exact h2)
    rw [hm i e1 e3] at hi
    exact absurd (h.inj i id _ _ _ hi (by rw [hl]; intro h; cases h) hsi hb.at_) e3
  · rw [if_neg e1] at hsi; rw [if_neg e2] at hsj
    have e3 : i ≠ id := fun e => hi (by rw [e]; exact h2)
    have e4 : j ≠ id := fun e => hj (by rw [e]; exact h2)
    rw [hm i e1 e3] at hi; rw [hm j e2 e4] at hj
    exact h.inj i j _ _ _ hi hj hsi hsj
 · rw [g4]
   by_cases e1 : i = g
   · rw [if_pos e1] at hsi; cases hsi; exact h.lt _ _ _ hb.at_
   · rw [if_neg e1] at hsi; exact h.lt _ _ _ hsi
theorem Trs.grow {L N : Nat → Prop} {id g b k o ty : Nat} {cs : Array Value} {vs : List Value} {fz : Nat × Nat} (hb : w.heap[b]? = Option.some (Obj.cells cs ty fz)) (hs : s id = Option.some (b, k)) (hL : L id) (hg : s g = Option.none) (hN : N g) : Trs L N s w (fun i => if i = g then Option.some (b, k) else s i) (w.setCells b o vs) := by
 obtain ⟨cs', g1, g2, g3, g6, g7, g8, g4, g5⟩ := setCells_at b vs o w cs ty fz hb
 refine ⟨fun i x hx => ?_, fun i x hx => ?_, fun i c q hx h0 => ?_, g6, g7, g8, by rw [g4]; exact Nat.le_refl _, fun c hc hn => g5 c fun e => ?_⟩
 · show (if i = g then _ else s i) = _
   rw [if_neg (fun e => by rw [e, hg] at hx; cases hx)]; exact hx
 · by_cases e : i = g
   · subst e; exact .inr ⟨hg, hN⟩
   · rw [if_neg e] at hx; exact .inl hx
 · by_cases e : i = g
   · rw [if_pos e] at hx; cases hx; exact .inr ⟨id, _, hL, hs⟩
   · rw [if_neg e, h0] at hx; cases hx
 · subst e
   exact hn id k hL hs
theorem RelH.drop (h : RelH tx s X w) (hm : ∀ i, X' (.mt i) = X (.mt i) ∨ X' (.mt i) = .no) (hc : ∀ i j, X' (.cl i j) = X (.cl i j)) : RelH tx s X' w := by
 have hm' : ∀ i, X' (.mt i) ≠ .no → X' (.mt i) = X (.mt i) := fun i hi => (hm i).resolve_right hi
 refine ⟨fun i m t e x hx => ?_, fun i j b q q' hi hj hsi hsj => ?_, h.lt⟩
 · have := hm' i (by rw [hx]; intro h; cases h)
   rw [this] at hx
   obtain ⟨b, q, cs, g⟩ := h.bl i m t e x hx
   exact ⟨b, q, cs, g.mono s.le_refl rfl fun j c _ hx => by rw [hc] at hx; exact hx⟩
 · have h1 := hm' i hi
   have h2 := hm' j hj
   rw [h1] at hi; rw [h2] at hj
   exact h.inj i j b q q' hi hj hsi hsj
end
theorem app_run {P : Program} {w : World} {t t' ty e : TypeId} {at_ : Array TypeId} {i : TypeInfo} {z : Value} (a0 : at_[0]? = some t) (a1 : at_[1]? = some t') (ht : P.underlying t = some (.slice e)) (ht' : P.underlying t' = some (.slice e)) (hi : P.info? e = some i) (hz : i.zero = some z) (hzs : z.cells.size = i.size) (hby : i.bytes ≤ 1048576)
 {ao : Option Addr} {n k : Nat} {olds news : List Value} {m : Nat} {y : Value} (hs : Src P i.size t' y m news w) (hnm : n + m ≤ 4095) (hk : k ≤ maxLen)
 (ho : ∀ w' : World, w'.heap = w.heap → (Builtin.firstCells i.size n (.slice ao n k)).run P w' = .ok olds.toArray w')
 (hroom : n + m ≤ k → ∃ b cs ty', ao = some ⟨b, 0, none⟩ ∧ w.heap[b]? = some (.cells cs ty' (0, 0)) ∧ n * i.size + news.length ≤ cs.size) :
 (n + m ≤ k ∧ ∃ b, ao = some ⟨b, 0, none⟩ ∧ (Builtin.append_ at_ ty #[.slice ao n k, y]).run P w = .ok (.slice ao (n + m) k) (w.setCells b (n * i.size) news)) ∨
 (k < n + m ∧ ∃ k', n + m ≤ k' ∧ k' ≤ maxLen ∧ (Builtin.append_ at_ ty #[.slice ao n k, y]).run P w = .ok (.slice (some ⟨w.heap.size, 0, none⟩) (n + m) k') (w.drew.alloc (.cells ((olds ++ news).toArray ++ Builtin.zeroCells z.cells (k' - (n + m))) e))) := by
 have hat : ∀ args : Array Value, Builtin.append_ at_ ty args = Builtin.append_ #[t, t'] ty args := fun args => by
  unfold Builtin.append_
  rw [a0, a1]
  rfl
 rw [hat]
 by_cases hf : n + m ≤ k
 ·
  left
  obtain ⟨b, cs, ty', rfl, h1, h2⟩ := hroom hf
  refine ⟨hf, b, rfl, ?_⟩
  have hcell : ∀ j, w.cell? ⟨b, j, none⟩ = cs[j]? := fun j => by simp [World.cell?, h1]
  have := run_append_room_src (P := P) w t t' ty e i ht hi b 0 n k y m news hs hf (fun j hj => by rw [hcell, Nat.zero_add, Array.getElem?_eq_getElem (by omega)]; rfl) (fun j hj => by simp [World.frozen?, h1])
  rw [Nat.zero_add] at this
  exact this
 ·
  right
  have hf : k < n + m := by omega
  refine ⟨hf, grownCap w (n + m) k e, grownCap_ge _ _ _ _, grownCap_le_maxLen _ _ _ _ (by simp only [maxLen]; omega), ?_⟩
  refine run_append_grow_src (P := P) w t t' ty e i z ht hi hz ao n k olds (ho w.drew rfl) y m news hs hf (by omega) (growslice_fits hf ?_)
  have : (n + m) * i.bytes ≤ 4095 * 1048576 := Nat.mul_le_mul hnm hby
  omega
end Go.Proofs.YtehpobojopmilaaGreat.Ev
namespace Go.Proofs.YtehpobojopmilaaGreat.Ev
set_option linter.unusedVariables false
set_option linter.unusedSimpArgs false
open Go
set_option maxRecDepth 4000
def GrX (tx : Tx) (s : Sg) (w : World) (Y : Loc → Vl) (ety es : Nat) (ao : Option Addr) (n k : Nat) (olds : List Value) (e : Option Nat) : Prop :=
 (ao = none ∧ n = 0 ∧ k = 0 ∧ olds = [] ∧ e = none) ∨ ∃ id b cs ex, ao = some ⟨b, 0, none⟩ ∧ Y (.mt id) = .mt (n * es) ety es ex ∧ BlkIs tx s w Y id (n * es) ety es ex b k cs ∧ olds = cs.toList.take (n * es) ∧ n ≤ k ∧ k ≤ maxLen ∧ e = iff' ex none (some id)
theorem app_fin {P : Program} {tx : Tx} {s : Sg} {w : World} {Y : Loc → Vl} (hR : RelH tx s Y w) {t t' ty e : TypeId} {at_ : Array TypeId} {ti : TI} {i : TypeInfo} {z : Value} (a0 : at_[0]? = some t) (a1 : at_[1]? = some t') (ht : P.underlying t = some (.slice e)) (ht' : P.underlying t' = some (.slice e)) (hi : TyIs P e ti i z) (hes : 1 ≤ ti.sz) (hes2 : ti.sz < 4096)
 {ao : Option Addr} {n k m nx c : Nat} {olds news : List Value} {y : Value} {ed : Option Nat} (hx : GrX tx s w Y e ti.sz ao n k olds ed) (hs : Src P i.size t' y m news w) (hm : 1 ≤ m) (hnm : n + m ≤ 4095) (hnx : s nx = none) (hnx2 : nx < 1048575)
 (hc : ∀ j, j < (n + m) * ti.sz → ∃ v, (olds ++ news)[j]? = some v ∧ RC tx s (cel c j) v) :
 ∃ v w' s', (Builtin.append_ at_ ty #[.slice ao n k, y]).run P w = .ok v w' ∧ Trs (fun j => ed = some j) (fun j => j = nx) s w s' w' ∧ RC tx s' (encL nx 0 (n + m) ti.sz) v ∧
  ∀ Z : Loc → Vl, Z (.mt nx) = .mt ((n + m) * ti.sz) e ti.sz false → (∀ j, j < (n + m) * ti.sz → Z (.cl nx j) = .c (cel c j)) → (∀ id, ed = some id → Z (.mt id) = .no) → (∀ i, i ≠ nx → ed ≠ some i → Z (.mt i) = Y (.mt i)) → (∀ i j, i ≠ nx → Z (.cl i j) = Y (.cl i j)) → RelH tx s' Z w' := by
 have hol : olds.length = n * ti.sz := by
  rcases hx with ⟨_, rfl, _, rfl, _⟩ | ⟨id, b, cs, ex, _, _, hb, rfl, _⟩
  · simp
  · have := hb.le; simp; omega
 have hnl : news.length = m * ti.sz := by rw [hs.newsLen, hi.size]
 have h12 : (n + m) * ti.sz = n * ti.sz + m * ti.sz := Nat.add_mul _ _ _
 have hkm : k ≤ maxLen := by
  rcases hx with ⟨_, rfl, rfl, rfl, _⟩ | ⟨id, b, cs, ex, _, _, hb, rfl, _, h, _⟩
  · exact Nat.zero_le _
  · exact h
 have ho : ∀ w' : World, w'.heap = w.heap → (Builtin.firstCells i.size n (.slice ao n k)).run P w' = .ok olds.toArray w' := fun w' hw => by
  rcases hx with ⟨rfl, rfl, rfl, rfl, _⟩ | ⟨id, b, cs, ex, rfl, _, hb, rfl, _⟩
  · exact run_firstCells_none w' _ _ _ _
  ·
   refine run_firstCells_some w' _ _ _ _ _ _ (by rw [hol, hi.size]) fun j v hj => ?_
   have hj' := (List.getElem?_eq_some_iff.1 hj).1
   rw [hol] at hj'
   rw [Addr.add_mid, Nat.zero_add]
   simp only [World.cell?, hw, hb.blk, Option.isSome_none, Bool.false_eq_true, if_false]
   rw [List.getElem?_take_of_lt hj', Array.getElem?_toList] at hj
   exact hj
 have hzs : z.cells.size = i.size := by rw [hi.zsize, hi.size]
 rcases app_run (P := P) (w := w) (ty := ty) (y := y) a0 a1 ht ht' hi.info hi.zero hzs hi.bytes hs hnm hkm ho (fun hf => by
     rcases hx with ⟨rfl, rfl, rfl, rfl, _⟩ | ⟨id, b, cs, ex, rfl, _, hb, rfl, _⟩
     · omega
     · refine ⟨b, cs, e, rfl, hb.blk, ?_⟩
       rw [hb.cap hes, hnl, hi.size, ← h12]
       exact Nat.mul_le_mul_right _ hf) with ⟨hf, b0, hao, hrun⟩ | ⟨hf, k', hk1, hk2, hrun⟩
 ·
  rcases hx with ⟨rfl, _⟩ | ⟨id, b, cs, ex, rfl, hmt, hb, rfl, hnk, hkm, rfl⟩
  · cases hao
  ·
   obtain rfl : b = b0 := by cases hao; rfl
   cases ex with
   | true =>
    have h1 := hb.exc rfl
    have h2 := hb.cap hes
    rw [h1] at h2
    have h3 : n = k := Nat.eq_of_mul_eq_mul_right hes h2
    omega
   | false =>
    rw [hi.size] at hrun
    have hfit : n * ti.sz + news.length ≤ cs.size := by
     rw [hb.cap hes, hnl, ← h12]
     exact Nat.mul_le_mul_right _ hf
    have hTr : Trs (fun j => iff' false none (Option.some id) = Option.some j) (fun j => j = nx) s w (fun i => if i = nx then Option.some (b, k) else s i) (w.setCells b (n * ti.sz) news) := Trs.grow (L := fun j => iff' false none (Option.some id) = Option.some j) (N := fun j => j = nx) hb.blk hb.at_ rfl hnx rfl
    refine ⟨_, _, _, hrun, hTr, ?_, fun Z z1 z2 z3 z4 z5 => ?_⟩
    · rw [encL_eq]
      have := RC.l (tx := tx) (s := fun i => if i = nx then some (b, k) else s i) nx 0 (n + m) ti.sz b k (if_pos rfl) hnx2 (by omega) (by omega) hes2 (by omega) hkm
      simpa using this
    ·
     refine RelH.grow hR hb hmt hes hnx hfit (by rw [z1, hnl, h12]) (z3 id rfl) (fun i h1 h2 => z4 i h1 fun h => h2 (Option.some.inj h).symm) z5 hs.one fun j c' hj hx => ?_
     rw [hnl, ← h12] at hj
     rw [z2 j hj] at hx
     cases hx
     obtain ⟨v, h1, h2⟩ := hc j hj
     refine ⟨v, ?_, h2⟩
     by_cases hjn : j < n * ti.sz
     · rw [if_pos hjn]
       rw [List.getElem?_append_left (by rw [hol]; exact hjn), List.getElem?_take_of_lt hjn, Array.getElem?_toList] at h1
       exact h1
     · rw [if_neg hjn]
       rw [List.getElem?_append_right (by rw [hol]; omega), hol] at h1
       exact h1
 ·
  let cs2 : Array Value := (olds ++ news).toArray ++ Builtin.zeroCells z.cells (k' - (n + m))
  have hsz : cs2.size = k' * ti.sz := by
   show ((olds ++ news).toArray ++ Builtin.zeroCells z.cells (k' - (n + m))).size = _
   rw [Array.size_append, List.size_toArray, List.length_append, hol, hnl, size_zeroCells, hi.zsize, ← h12, ← Nat.add_mul]
   congr 1; omega
  have hle : (n + m) * ti.sz ≤ cs2.size := by rw [hsz]; exact Nat.mul_le_mul_right _ hk1
  have hTr : Trs (fun j => ed = Option.some j) (fun j => j = nx) s w (fun i => if i = nx then Option.some (w.heap.size, k') else s i) (w.drew.alloc (.cells cs2 e)) := Trs.alloc (N := fun j => j = nx) (w1 := w.drew) hnx rfl rfl rfl rfl rfl
  refine ⟨_, _, _, hrun, hTr, ?_, fun Z z1 z2 z3 z4 z5 => ?_⟩
  · rw [encL_eq]
    have := RC.l (tx := tx) (s := fun i => if i = nx then some (w.heap.size, k') else s i) nx 0 (n + m) ti.sz _ k' (if_pos rfl) hnx2 (by omega) (by omega) hes2 (by omega) hk2
    simpa using this
  ·
   let X1 : Loc → Vl := fun l => match l with | .mt i => if ed = some i then .no else Y (.mt i) | l => Y l
   have hR1 : RelH tx s X1 w := hR.drop (fun i => by
     show (if ed = some i then _ else _) = _ ∨ (if ed = some i then _ else _) = _
     by_cases h : ed = some i
     · rw [if_pos h]; exact .inr rfl
     · rw [if_neg h]; exact .inl rfl) (fun _ _ => rfl)
   refine RelH.alloc (X' := Z) hR1 hnx (fun j hj => ?_) (fun j q hj => z5 j q hj) z1 hle (fun _ => hsz) (fun h => by omega) (fun h => by cases h) (fun u hu => ?_) (fun j c' hj hx => ?_) rfl
   · show _ = if ed = some j then _ else _
     by_cases h : ed = some j
     · rw [if_pos h]; exact z3 j h
     · rw [if_neg h]; exact z4 j hj h
   ·
    rcases Array.mem_append.1 hu with h | h
    · obtain ⟨j, hj, e1⟩ := List.getElem_of_mem (List.mem_toArray.1 h)
      have hj' : j < (n + m) * ti.sz := by rw [h12]; rw [List.length_append, hol, hnl] at hj; exact hj
      obtain ⟨v, h1, h2⟩ := hc j hj'
      rw [List.getElem?_eq_getElem hj, e1] at h1
      cases h1
      exact h2.one.2
    ·
     obtain ⟨j, hj, e1⟩ := Array.mem_map.1 h
     subst e1
     have hz := hi.rl tx s
     have hpos : 0 < z.cells.size := by rw [hi.zsize]; omega
     have hm' : j % z.cells.size < z.cells.size := Nat.mod_lt _ hpos
     rw [getElem!_pos z.cells _ hm']
     have := hz.2.2 (j % z.cells.size) (by simpa using hm')
     simp only [Array.getElem_toList] at this
     exact this.one.2
   · rw [z2 j hj] at hx
     cases hx
     obtain ⟨v, h1, h2⟩ := hc j hj
     refine ⟨v, ?_, h2⟩
     show ((olds ++ news).toArray ++ _)[j]? = _
     rw [Array.getElem?_append_left (by rw [List.size_toArray, List.length_append, hol, hnl, ← h12]; exact hj)]
     simpa using h1
section
variable {P : Program} {TY : T TI} {tx : Tx} {nt : Nat} {L : T Ly} {A : List Al} {G : Option (Nat × Bool)} {fr nx : Nat} {h : HT} {hs : Sh} {ld : Bool} {X : Loc → Vl}
def rdR (rd : List Nat) (l : Loc) : Prop := ∃ q ∈ rd, cov q l
theorem app_at {t t' ty : TypeId} {args : Array Value} {at2 : Array TypeId} (a0 : at2[0]? = some t) (a1 : at2[1]? = some t') : Builtin.append_ at2 ty args = Builtin.append_ #[t, t'] ty args := by
 unfold Builtin.append_
 rw [a0, a1]
 rfl
def KeepOk (P : Program) (tx : Tx) (nt : Nat) (L : T Ly) (A : List Al) (G : Option (Nat × Bool)) (fr : Nat) (X : Loc → Vl) (op : Op) (r : Nat) (rd : List Nat) : Prop :=
 ∀ (ops : Array Oper) (i : Nat) (o : Oper) (X' : Loc → Vl) (Q : Exit → Act → World → Prop), ops[i]? = some o → o.op = op → o.guard = G → GdOn ops X o.guard → (∀ x, x ∈ o.op.operands → ∀ y, cOd tx L A G x = some y → OpdIs tx X x y.h (y.o fr)) → (∀ d, o.dst = some d → d < nt ∧ X' (.tm d) = .v .c r) →
  StpOk (Rel tx nt) P ops Q i X X' ⟨fun l => RT ops o l ∨ rdR rd l, wD o.dst, fun _ => False, fun _ => False⟩
def GrowOk (P : Program) (tx : Tx) (nt : Nat) (L : T Ly) (A : List Al) (G : Option (Nat × Bool)) (fr : Nat) (X : Loc → Vl) (op : Op) (r : Nat) (rd : List Nat) (nx : Nat) (bk : Blk) (e : Option Nat) : Prop :=
 ∀ (ops : Array Oper) (i : Nat) (o : Oper) (X' : Loc → Vl) (Q : Exit → Act → World → Prop), ops[i]? = some o → o.op = op → o.guard = G → GdOn ops X o.guard → (∀ x, x ∈ o.op.operands → ∀ y, cOd tx L A G x = some y → OpdIs tx X x y.h (y.o fr)) → (∀ d, o.dst = some d → d < nt ∧ X' (.tm d) = .v .c r) →
  X' (.mt nx) = .mt bk.n bk.ty bk.es bk.ex → (∀ j, j < bk.n → X' (.cl nx j) = .c (cel bk.c j)) → (∀ id, e = some id → X' (.mt id) = .no) →
  StpOk (Rel tx nt) P ops Q i X X' ⟨fun l => RT ops o l ∨ rdR rd l, fun l => wD o.dst l ∨ l = .mt nx ∨ (∃ j, l = .cl nx j) ∨ ∃ id, e = some id ∧ l = .mt id, fun j => e = some j, fun j => j = nx⟩
theorem acc_all (id : Nat) : accI (acc id 0 4095) = id ∧ accC (acc id 0 4095) = 0 ∧ accN (acc id 0 4095) = 4095 := acc_ok (by omega) (by omega)
theorem ap_ok (hT : ∀ t ti, TY.get t = some ti → tiOf P t = some ti) {op : Op} {g : Nat → HT → Nat → KP → Bool} {κ : KP} (h0 : cOp P TY tx L A G ld op = some ⟨.ap g, hs⟩) (hg : g fr h nx κ = true) (hH : HeapIs X h nx) :
 hs = .c ∧ ((∃ r rd, κ r rd none none = true ∧ (∀ q ∈ rd, ∃ id, id < nx ∧ q = acc id 0 4095) ∧ KeepOk P tx nt L A G fr X op r rd) ∨
   (∃ r rd bk e, κ r rd (some bk) e = true ∧ (∀ q ∈ rd, ∃ id, id < nx ∧ q = acc id 0 4095) ∧ (∀ id, e = some id → T.get h id ≠ none ∧ acc id 0 4095 ∈ rd) ∧ bk.c < 2 ^ (72 * bk.n) ∧ GrowOk P tx nt L A G fr X op r rd nx bk e)) := by
 have hk : isApp op := cOp_kd op _ h0
 cases op with
 | call c =>
  have hc : c.callee = .builtin .append := hk
  rw [cOp] at h0
  unfold cCall at h0
  rw [hc] at h0
  simp only at h0
  unfold cCallB at h0
  split at h0
  · contradiction
  ·
   rename_i x y _ hxy
   obtain ⟨ox, h1, h0⟩ := boc_some h0
   obtain ⟨oy, h2, h0⟩ := boc_some h0
   obtain ⟨t, t1, h0⟩ := bnd_some h0
   obtain ⟨t', t2, h0⟩ := bnd_some h0
   obtain ⟨t3, h0⟩ := iff_some h0
   obtain ⟨ti, t4, h0⟩ := bnd_some h0
   obtain ⟨e, t5, h0⟩ := bnd_some h0
   obtain ⟨te, t6, h0⟩ := bnd_some h0
   have h0 := Option.some.inj h0
   cases h0
   have t3 := beq_t t3
   subst t3
   rw [nth_eq, Array.getElem?_toList] at t1 t2
   have hargs : c.args = #[x, y] := by rw [← Array.toArray_toList (xs := c.args), hxy]
   have hopx : x ∈ (Op.call c).operands := by simp [Op.operands, Call.operands, hargs, hc]
   have hopy : y ∈ (Op.call c).operands := by simp [Op.operands, Call.operands, hargs, hc]
   have fin : ∀ (ρ : Operand → Value) (v : Value) (o : Oper) (w w' : World), o.op = .call c → (∀ ty, (Builtin.append_ c.argTypes ty #[ρ x, ρ y]).run P w = .ok v w') → (execOp ρ o).run P w = .ok (.value v) w' := fun ρ v o w w' ho hr => by
    unfold execOp
    rw [ho]
    simp only [resolve, hc, invoke, builtin, hargs, Sem.run_bind, Sem.run_pure, Result.andThen_ok, List.map_toArray, List.map_cons, List.map_nil, hr]
   obtain ⟨u1, i, u2, u3, u4, u5, u6⟩ := slTy hT t4 t5 t6
   have t6' := t6
   unfold elOf at t6'
   obtain ⟨te', t7, t6'⟩ := bnd_some t6'
   obtain ⟨_, t6'⟩ := iff_some t6'
   obtain ⟨_, t6'⟩ := iff_some t6'
   cases t6'
   obtain ⟨_, ag, i', z, g1, g2, g3, g4⟩ := varTy hT t7
   have hii : i' = i := by have := g4.info; rw [u2] at this; exact (Option.some.inj this).symm
   subst hii
   unfold eApp at hg
   obtain ⟨x7, hg1⟩ := tag_t hg
   have keep : ∀ rd, (∀ (s : Sg) (w : World) (vy : Value), Cl tx s .c (oy fr) vy → Src P i'.size t vy 0 [] w) → KeepOk P tx nt L A G fr X (.call c) (ox fr) rd := fun rd hsrc ops i o X' Q ho hop hG hgd hcl hd => by
    refine stp_val ho hgd (fun _ h => .inl h) rfl (fun d e => (hd d e).1) fun s Y a w hY hr => ?_
    have hcx := opd_cl hr (fun t e => hY _ (.inl (.inl ⟨t, rfl, .inl (by rw [hop, ← e]; exact hopx)⟩))) (hcl x (by rw [hop]; exact hopx) _ h1)
    have hcy := opd_cl hr (fun t e => hY _ (.inl (.inl ⟨t, rfl, .inl (by rw [hop, ← e]; exact hopy)⟩))) (hcl y (by rw [hop]; exact hopy) _ h2)
    refine ⟨a.eval x, fin a.eval (a.eval x) o w w hop fun ty => ?_, fun d e => by rw [(hd d e).2]; exact hcx⟩
    rw [app_at t1 t2]
    rcases (hcx.rc (by rw [x7]; omega)).t7 x7 with ⟨e1, _⟩ | ⟨id, eo, n, es, b, k, e1, e2, _, _, _, _, _, h5, _⟩ | ⟨A, q, e1, _⟩
    · rw [e1]; exact run_append_nothing (P := P) w t t ty e _ u1 u2 none 0 0 (Nat.le_refl _) _ (hsrc s w _ hcy)
    · rw [e1]; exact run_append_nothing (P := P) w t t ty e _ u1 u2 (some _) n (k - eo) (by omega) _ (hsrc s w _ hcy)
    · rw [e1]; exact run_append_nothing (P := P) w t t ty e _ u1 u2 (some _) 0 q (Nat.zero_le _) _ (hsrc s w _ hcy)
   refine ⟨rfl, ?_⟩
   cases hy7 : Nat.beq (oy fr) 7 with
   | true =>
    rw [hy7] at hg1
    have hg2 : κ (ox fr) [] none none = true := hg1
    refine .inl ⟨_, _, hg2, fun q hq => (by cases hq), keep [] fun s w vy hcy => ?_⟩
    have hy7 := beq_t hy7
    rcases (hcy.rc (by rw [hy7]; omega)).t7 (by rw [hy7]) with ⟨e1, _⟩ | ⟨id, eo, n, es, b, k, e1, e2, _⟩ | ⟨A, q, e1, e2, _⟩
    · rw [e1]; exact Src.ofNil w u1 0
    · omega
    · omega
   | false =>
    rw [hy7] at hg1
    cases hy15 : Nat.beq (oy fr) 15 with
    | true =>
     rw [hy15] at hg1
     have hg2 : κ (ox fr) [] none none = true := hg1
     refine .inl ⟨_, _, hg2, fun q hq => (by cases hq), keep [] fun s w vy hcy => ?_⟩
     have hy15 := beq_t hy15
     have : ∃ A q, vy = .slice (some A) 0 q := by
      rcases (hcy.rc (by rw [hy15]; omega)).t7 (by rw [hy15]) with ⟨e1, e2⟩ | ⟨id, eo, n, es, b, k, e1, e2, _⟩ | ⟨A, q, e1, e2, _⟩
      · omega
      · have : n = 0 := by omega
        subst this; exact ⟨_, _, e1⟩
      · exact ⟨_, _, e1⟩
     obtain ⟨A, q, e1⟩ := this
     rw [e1]
     exact Src.ofSlice w u1 _ 0 _ [] (by simp) (fun j u hj => by simp at hj) (fun u hu => by cases hu)
    | false =>
     rw [hy15] at hg1
     have hg2 : srcK te.sz h (fun src m rd => iff' (Nat.beq m 0) (κ (ox fr) rd none none) (app0 te.sz h e nx κ (ox fr) src m rd)) (oy fr) = true := hg1
     unfold srcK at hg2
     obtain ⟨y0, idy, eoy, m, esy, hg3, hpy⟩ := sl_ok hg2
     obtain ⟨y1, hg4⟩ := iff_tt hg3
     obtain ⟨bky, y2, hg5⟩ := getK_some hg4
     obtain ⟨y3, hg6⟩ := iff_tt hg5
     have y1 := beq_t y1
     subst y1
     have y3 : (eoy + m) * te.sz ≤ bky.n := ble_t y3
     obtain ⟨y4, y5⟩ := hH.at_ idy bky y2
     have y5n := y5.n
     have hrdy : ∀ q ∈ [acc idy 0 4095], ∃ id, id < nx ∧ q = acc id 0 4095 := fun q hq => ⟨idy, y4, List.mem_singleton.1 hq⟩
     have hg7 : iff' (Nat.beq m 0) (κ (ox fr) [acc idy 0 4095] none none) (app0 te.sz h e nx κ (ox fr) (spn bky.c (72 * (eoy * te.sz)) (mk (m * te.sz))) m [acc idy 0 4095]) = true := hg6
     cases hm0 : Nat.beq m 0 with
     | true =>
      rw [hm0] at hg7
      have hg8 : κ (ox fr) [acc idy 0 4095] none none = true := hg7
      have hm0 := beq_t hm0
      subst hm0
      refine .inl ⟨_, _, hg8, hrdy, keep _ fun s w vy hcy => ?_⟩
      obtain ⟨b, k, e1, _⟩ := hpy tx s vy hcy
      rw [e1]
      exact Src.ofSlice w u1 _ 0 _ [] (by simp) (fun j u hj => by simp at hj) (fun u hu => by cases hu)
     | false =>
      rw [hm0] at hg7
      have hg8 : app0 te.sz h e nx κ (ox fr) (spn bky.c (72 * (eoy * te.sz)) (mk (m * te.sz))) m [acc idy 0 4095] = true := hg7
      have hm1 : 1 ≤ m := by
       rcases Nat.eq_zero_or_pos m with h | h
       · subst h; cases hm0
       · exact h
      have grow : ∀ (rdx : List Nat) (n cc : Nat) (ed : Option Nat), (∀ (s : Sg) (Y : Loc → Vl) (w : World) (vx : Value), (∀ l, rdR rdx l → Y l = X l) → RelH tx s Y w → Cl tx s .c (ox fr) vx → ∃ ao k olds, vx = .slice ao n k ∧ GrX tx s w Y e te.sz ao n k olds ed ∧ ∀ j, j < n * te.sz → ∃ v, olds[j]? = some v ∧ RC tx s (cel cc j) v) →
       (∀ j, j < m * te.sz → cel cc (n * te.sz + j) = cel bky.c (eoy * te.sz + j)) → n + m ≤ 4095 → (∀ id, ed = some id → id ≠ nx) → GrowOk P tx nt L A G fr X (.call c) (encL nx 0 (n + m) te.sz) (rdx ++ [acc idy 0 4095]) nx ⟨cc, (n + m) * te.sz, e, te.sz, false⟩ ed := by
       intro rdx n cc ed hxs hcc hnm hedx ops i o X' Q ho hop hG hgd hcl hd z1 z2 z3
       refine stp_run (p := ⟨fun l => RT ops o l ∨ rdR (rdx ++ [acc idy 0 4095]) l, fun l => wD o.dst l ∨ l = .mt nx ∨ (∃ j, l = .cl nx j) ∨ ∃ id, ed = some id ∧ l = .mt id, fun j => ed = some j, fun j => j = nx⟩) ho hgd (fun _ h => .inl h) fun s Y a w hY hr hf => ?_
       have hcx := opd_cl hr (fun t e => hY _ (.inl (.inl ⟨t, rfl, .inl (by rw [hop, ← e]; exact hopx)⟩))) (hcl x (by rw [hop]; exact hopx) _ h1)
       have hcy := opd_cl hr (fun t e => hY _ (.inl (.inl ⟨t, rfl, .inl (by rw [hop, ← e]; exact hopy)⟩))) (hcl y (by rw [hop]; exact hopy) _ h2)
       obtain ⟨ao, k, olds, e1, hgx, hold⟩ := hxs s Y w _ (fun l hl => hY l (.inl (.inr (by obtain ⟨q, h1, h2⟩ := hl; exact ⟨q, List.mem_append_left _ h1, h2⟩)))) hr.h hcx
       obtain ⟨by_, ky, f1, f2, _, _, _, f3, _⟩ := hpy tx s _ hcy
       have hYy : ∀ l, cov (acc idy 0 4095) l → Y l = X l := fun l hl => hY l (.inl (.inr ⟨_, List.mem_append_right _ (List.mem_singleton.2 rfl), hl⟩))
       obtain ⟨a1, a2, a3⟩ := acc_all idy
       obtain ⟨csy, hby⟩ := blk_at hr.h ((hYy (.mt idy) a1).trans y5.mt) f2
       have hle := hby.le
       have y3' : eoy * te.sz + m * te.sz ≤ bky.n := by rw [← Nat.add_mul]; exact y3
       let news := (csy.toList.drop (eoy * te.sz)).take (m * te.sz)
       have hnl : news.length = m * te.sz := by simp [news]; omega
       have hnat : ∀ j, j < m * te.sz → ∃ v, news[j]? = some v ∧ csy[eoy * te.sz + j]? = some v ∧ RC tx s (cel bky.c (eoy * te.sz + j)) v := fun j hj => by
        obtain ⟨v, f4, f5⟩ := hby.cl (eoy * te.sz + j) _ (by omega) ((hYy (.cl idy (eoy * te.sz + j)) ⟨a1, by omega, by omega⟩).trans (y5.cl _ (by omega)))
        refine ⟨v, ?_, f4, f5⟩
        simp only [news]
        rw [List.getElem?_take_of_lt hj, List.getElem?_drop, Array.getElem?_toList]; exact f4
       have hsrc : Src P i'.size t (a.eval y) m news w := by
        rw [f1]
        refine Src.ofSlice w u1 _ m _ news (by rw [hnl, u3]) (fun j u hj => ?_) (fun u hu => ?_)
        · have hj' := (List.getElem?_eq_some_iff.1 hj).1
          rw [hnl] at hj'
          obtain ⟨v, f4, f5, f6⟩ := hnat j hj'
          rw [f4] at hj
          cases hj
          rw [Addr.add_mid]
          simp only [World.cell?, hby.blk, Option.isSome_none, Bool.false_eq_true, if_false]
          exact f5
        · obtain ⟨j, hj, e2⟩ := List.getElem_of_mem hu
          rw [hnl] at hj
          obtain ⟨v, f4, f5, f6⟩ := hnat j hj
          rw [List.getElem?_eq_getElem (by rw [hnl]; exact hj), e2] at f4
          cases f4
          exact f6.one.2
       have hoL : olds.length = n * te.sz := by
        rcases hgx with ⟨_, rfl, _, rfl, _⟩ | ⟨id, b, cs, ex, _, _, hb, rfl, _⟩
        · simp
        · have := hb.le; simp; omega
       have hnx := hH.nx
       obtain ⟨v, w', s', hrun, hTr, hrc, hZ⟩ := app_fin (P := P) (tx := tx) (s := s) (w := w) (Y := Y) (ty := o.type) (nx := nx) (c := cc) hr.h t1 t2 u1 u1 g4 u4 (by omega) hgx hsrc hm1 hnm (hf nx rfl) (by omega) (fun j hj => by
         rw [Nat.add_mul] at hj
         by_cases hjn : j < n * te.sz
         · obtain ⟨v, k1, k2⟩ := hold j hjn
           exact ⟨v, by rw [List.getElem?_append_left (by rw [hoL]; exact hjn)]; exact k1, k2⟩
         · obtain ⟨v, k1, _, k2⟩ := hnat (j - n * te.sz) (by omega)
           refine ⟨v, by rw [List.getElem?_append_right (by rw [hoL]; omega), hoL]; exact k1, ?_⟩
           have := hcc (j - n * te.sz) (by omega)
           rw [show n * te.sz + (j - n * te.sz) = j by omega] at this
           rw [this]; exact k2)
       have hoW : ∀ l, (wD o.dst l ∨ l = .mt nx ∨ (∃ j, l = .cl nx j) ∨ ∃ id, ed = some id ∧ l = .mt id) → over Y X' (fun l => wD o.dst l ∨ l = .mt nx ∨ (∃ j, l = .cl nx j) ∨ ∃ id, ed = some id ∧ l = .mt id) l = X' l := fun l hl => over_in (X := Y) (X' := X') (W := fun l => wD o.dst l ∨ l = .mt nx ∨ (∃ j, l = .cl nx j) ∨ ∃ id, ed = some id ∧ l = .mt id) hl
       have hoN : ∀ l, ¬ (wD o.dst l ∨ l = .mt nx ∨ (∃ j, l = .cl nx j) ∨ ∃ id, ed = some id ∧ l = .mt id) → over Y X' (fun l => wD o.dst l ∨ l = .mt nx ∨ (∃ j, l = .cl nx j) ∨ ∃ id, ed = some id ∧ l = .mt id) l = Y l := fun l hl => over_out hl
       have hwd : ∀ l, wD o.dst l → ∃ d, o.dst = some d ∧ l = .tm d := fun l hl => by
        cases e : o.dst with
        | none => rw [e] at hl; cases hl
        | some d => rw [e] at hl; exact ⟨d, rfl, hl⟩
       refine ⟨v, w', s', ?_, hTr, hr.mk' hTr.le (hZ _ ((hoW _ (.inr (.inl rfl))).trans z1) (fun j hj => (hoW _ (.inr (.inr (.inl ⟨j, rfl⟩)))).trans (z2 j hj)) (fun id hid => (hoW _ (.inr (.inr (.inr ⟨id, hid, rfl⟩)))).trans (z3 id hid)) (fun i h1 h2 => hoN _ ?_) (fun i j h1 => hoN _ ?_)) (fun t' ht => hoN _ ?_) fun d e => ⟨(hd d e).1, ?_⟩⟩
       · refine fin a.eval v o w w' hop fun ty => ?_
         have : Builtin.append_ c.argTypes ty #[a.eval x, a.eval y] = Builtin.append_ c.argTypes o.type #[a.eval x, a.eval y] := rfl
         rw [this, e1]
         exact hrun
       · rintro (h | h | ⟨j, h⟩ | ⟨id, h, h'⟩)
         · obtain ⟨d, _, h⟩ := hwd _ h; cases h
         · cases h; exact h1 rfl
         · cases h
         · cases h'; exact h2 h
       · rintro (h | h | ⟨j, h⟩ | ⟨id, h, h'⟩)
         · obtain ⟨d, _, h⟩ := hwd _ h; cases h
         · cases h
         · cases h; exact h1 rfl
         · cases h'
       · rintro (h | h | ⟨j, h⟩ | ⟨id, h, h'⟩)
         · obtain ⟨d, h3, h⟩ := hwd _ h; cases h; exact ht h3
         · cases h
         · cases h
         · cases h'
       · rw [hoW _ (.inl (by rw [e]; rfl)), (hd d e).2]
         exact Cl.of hrc
      unfold app0 at hg8
      cases hx7 : Nat.beq (ox fr) 7 with
      | true =>
       rw [hx7] at hg8
       have hg9 : app1 te.sz e nx κ (spn bky.c (72 * (eoy * te.sz)) (mk (m * te.sz))) m [acc idy 0 4095] = true := hg8
       have hx7 := beq_t hx7
       unfold app1 at hg9
       have hg10 : κ (encL nx 0 m te.sz) [acc idy 0 4095] (some ⟨spn bky.c (72 * (eoy * te.sz)) (mk (m * te.sz)), m * te.sz, e, te.sz, false⟩) none = true := hg9
       have hm4 : m ≤ 4095 := by
        have := Nat.le_mul_of_pos_right m (show 0 < te.sz by omega)
        have := Nat.mul_le_mul_right te.sz (Nat.le_add_left m eoy)
        omega
       refine .inr ⟨_, _, _, _, hg10, hrdy, fun id h => (by cases h), spn_lt _ _ _, ?_⟩
       have := grow [] 0 (spn bky.c (72 * (eoy * te.sz)) (mk (m * te.sz))) none (fun s Y w vx _ _ hcx => by
         rcases (hcx.rc (by rw [hx7]; omega)).t7 (by rw [hx7]) with ⟨e1, _⟩ | ⟨id, eo, n, es, b, k, e1, e2, _⟩ | ⟨A, q, e1, e2, _⟩
         · exact ⟨none, 0, [], e1, .inl ⟨rfl, rfl, rfl, rfl, rfl⟩, fun j hj => by omega⟩
         · omega
         · omega) (fun j hj => by rw [Nat.zero_mul, Nat.zero_add, cel_spn' hj]) (by omega) (fun id h => (by cases h))
       simpa using this
      | false =>
       rw [hx7] at hg8
       have hg9 : (sl (ox fr) fun id eo n es' => iff' (Nat.beq es' te.sz) (iff' (Nat.beq eo 0) (iff' (Nat.ble (n + m) 4095) (app2 te.sz h e nx id n κ (spn bky.c (72 * (eoy * te.sz)) (mk (m * te.sz))) m [acc idy 0 4095]) false) false) false) = true := hg8
       obtain ⟨x0, idx, eox, n, esx, hg10, hpx⟩ := sl_ok hg9
       obtain ⟨w1, hg11⟩ := iff_tt hg10
       obtain ⟨w2, hg12⟩ := iff_tt hg11
       obtain ⟨w3, hg13⟩ := iff_tt hg12
       unfold app2 at hg13
       obtain ⟨bkx, w4, hg14⟩ := getK_some hg13
       obtain ⟨w5, hg15⟩ := iff_tt hg14
       obtain ⟨w6, hg16⟩ := iff_tt hg15
       obtain ⟨w7, hg17⟩ := iff_tt hg16
       have w1 := beq_t w1
       have w2 := beq_t w2
       have w3 : n + m ≤ 4095 := ble_t w3
       have w5 : n * te.sz = bkx.n := beq_t w5
       have w6 : bkx.ty = e := beq_t w6
       have w7 : bkx.es = te.sz := beq_t w7
       subst w2
       subst w1
       obtain ⟨w8, w9⟩ := hH.at_ idx bkx w4
       have hcc : ∀ j, cel (Nat.lor bkx.c (Nat.shiftLeft (spn bky.c (72 * (eoy * te.sz)) (mk (m * te.sz))) (72 * bkx.n))) j = if j < bkx.n then cel bkx.c j else cel (spn bky.c (72 * (eoy * te.sz)) (mk (m * te.sz))) (j - bkx.n) := fun j => cel_app w9.lt j
       have hg18 : κ (encL nx 0 (n + m) te.sz) (acc idx 0 4095 :: [acc idy 0 4095]) (some ⟨Nat.lor bkx.c (Nat.shiftLeft (spn bky.c (72 * (eoy * te.sz)) (mk (m * te.sz))) (72 * bkx.n)), (n + m) * te.sz, e, te.sz, false⟩) (iff' bkx.ex none (some idx)) = true := hg17
       have hed : ∀ id, iff' bkx.ex none (some idx) = some id → id = idx := fun id h => by
        cases hx : bkx.ex with
        | true => rw [hx] at h; cases h
        | false => rw [hx] at h; cases h; rfl
       refine .inr ⟨_, _, _, _, hg18, fun q hq => ?_, fun id h => ?_, ?_, ?_⟩
       · rcases List.mem_cons.1 hq with h | h
         · exact ⟨idx, w8, h⟩
         · exact hrdy q h
       · have := hed id h
         subst this
         exact ⟨(by rw [w4]; intro h; cases h), List.mem_cons_self⟩
       · have := app_lt w9.lt (spn_lt bky.c (72 * (eoy * te.sz)) (m * te.sz))
         rw [← w5, ← Nat.add_mul] at this
         rw [← w5]; exact this
       ·
        refine grow [acc idx 0 4095] n _ _ (fun s Y w vx hY hR hcx => ?_) (fun j hj => ?_) w3 (fun id h => by have := hed id h; omega)
        ·
         obtain ⟨b, k, f1, f2, _, _, f3, _, f4, f5⟩ := hpx tx s vx hcx
         obtain ⟨a1, a2, a3⟩ := acc_all idx
         have hYx : ∀ l, cov (acc idx 0 4095) l → Y l = X l := fun l hl => hY l ⟨_, List.mem_singleton.2 rfl, hl⟩
         have hmt := (hYx (.mt idx) a1).trans w9.mt
         obtain ⟨cs, hb⟩ := blk_at hR hmt f2
         have hle := hb.le
         rw [← w5, w6, w7] at hmt hb
         refine ⟨some ⟨b, 0, none⟩, k, cs.toList.take (n * te.sz), by rw [f1]; simp, .inr ⟨idx, b, cs, bkx.ex, rfl, hmt, hb, rfl, by omega, f5, rfl⟩, fun j hj => ?_⟩
         have hjn : j < bkx.n := by omega
         have hn4 := w9.n
         obtain ⟨v, k1, k2⟩ := hb.cl j _ hj ((hYx (.cl idx j) ⟨a1, by omega, by omega⟩).trans (w9.cl j hjn))
         refine ⟨v, ?_, ?_⟩
         · rw [List.getElem?_take_of_lt hj, Array.getElem?_toList]; exact k1
         · rw [hcc, if_pos hjn]; exact k2
        · rw [hcc, if_neg (by omega), w5, Nat.add_sub_cancel_left, cel_spn' hj]
  · cases h0
 | _ => exact hk.elim
end
end Go.Proofs.YtehpobojopmilaaGreat.Ev
namespace Go.Proofs.YtehpobojopmilaaGreat.Ev
set_option linter.unusedVariables false
set_option linter.unusedSimpArgs false
open Go
set_option maxRecDepth 4000
theorem get_e {α : Type} (k : Nat) : T.get (.e : T α) k = none := rfl
theorem get_z {α : Type} (x : Option α) (l r : T α) : T.get (.n x l r) 0 = x := rfl
theorem get_s {α : Type} (x : Option α) (l r : T α) (k : Nat) : T.get (.n x l r) (k + 1) = if k % 2 = 0 then T.get l (k / 2) else T.get r (k / 2) := by
 show Nat.rec (motive := fun _ => Option α) (T.get l (Nat.div k 2)) (fun _ _ => T.get r (Nat.div k 2)) (Nat.mod k 2) = _
 rw [nmod, ndiv]
 rcases Nat.mod_two_eq_zero_or_one k with h | h <;> rw [h] <;> rfl
theorem parity {j k : Nat} (h1 : j % 2 = k % 2) (h2 : j / 2 = k / 2) : j = k := by omega
theorem setK_some {α : Type} {v : Option α} : ∀ {f : Nat} {t : T α} {k : Nat} {κ : T α → Bool}, T.setK v f t k κ = true → ∃ t', κ t' = true ∧ ∀ j, T.get t' j = if j = k then v else T.get t j
 | 0, t, k, κ, h => by cases h
 | f + 1, t, k, κ, h => by
  have key : ∀ (x : Option α) (l r : T α), T.stN (T.setK v f) v x l r k κ = true → ∃ t', κ t' = true ∧ ∀ j, T.get t' j = if j = k then v else T.get (.n x l r) j := by
   intro x l r h
   cases k with
   | zero =>
    have h : κ (.n v l r) = true := h
    refine ⟨_, h, fun j => ?_⟩
    cases j with
    | zero => rw [if_pos rfl]; rfl
    | succ j => rw [if_neg (by omega), get_s, get_s]
   | succ k =>
    have h : Nat.rec (motive := fun _ => Bool) (T.setK v f l (k / 2) fun l => κ (.n x l r)) (fun _ _ => T.setK v f r (k / 2) fun r => κ (.n x l r)) (k % 2) = true := h
    rcases Nat.mod_two_eq_zero_or_one k with hm | hm
    ·
     rw [hm] at h
     obtain ⟨l', h1, h2⟩ := setK_some (f := f) h
     refine ⟨_, h1, fun j => ?_⟩
     cases j with
     | zero => rw [if_neg (by omega)]; rfl
     | succ j =>
      rw [get_s, get_s]
      by_cases hj : j % 2 = 0
      · rw [if_pos hj, if_pos hj, h2]
        by_cases e : j = k
        · subst e; rw [if_pos rfl, if_pos rfl]
        · rw [if_neg (fun h => e (parity (by omega) h)), if_neg (by omega)]
      · rw [if_neg hj, if_neg hj, if_neg (fun h => by have : j = k := by omega
                                                      subst this; exact hj hm)]
    ·
     rw [hm] at h
     obtain ⟨r', h1, h2⟩ := setK_some (f := f) h
     refine ⟨_, h1, fun j => ?_⟩
     cases j with
     | zero => rw [if_neg (by omega)]; rfl
     | succ j =>
      rw [get_s, get_s]
      by_cases hj : j % 2 = 0
      · rw [if_pos hj, if_pos hj, if_neg (fun h => by have : j = k := by omega
                                                      subst this; omega)]
      · rw [if_neg hj, if_neg hj, h2]
        by_cases e : j = k
        · subst e; rw [if_pos rfl, if_pos rfl]
        · rw [if_neg (fun h => e (parity (by omega) h)), if_neg (by omega)]
  cases t with
  | e =>
   obtain ⟨t', h1, h2⟩ := key none .e .e h
   refine ⟨t', h1, fun j => (h2 j).trans ?_⟩
   cases j with
   | zero => rfl
   | succ j => by_cases hj : j % 2 = 0 <;> simp [get_s, get_e, hj]
  | n x l r => exact key x l r h
theorem put_n {α : Type} (x : Option α) (l r : T α) (k : Nat) (v : α) (f : Nat) : T.put (.n x l r) (k + 1) v (f + 1) = if k % 2 = 0 then .n x (T.put l (k / 2) v f) r else .n x l (T.put r (k / 2) v f) := by
 show Nat.rec (motive := fun _ => T α) (.n x (T.put l (Nat.div k 2) v f) r) (fun _ _ => .n x l (T.put r (Nat.div k 2) v f)) (Nat.mod k 2) = _
 rw [nmod, ndiv]
 rcases Nat.mod_two_eq_zero_or_one k with h | h <;> rw [h] <;> rfl
theorem put_e {α : Type} (k : Nat) (v : α) (f : Nat) : T.put .e k v (f + 1) = T.put (.n none .e .e) k v (f + 1) := by
 cases k <;> rfl
theorem get_e' {α : Type} (j : Nat) : T.get (.n none .e .e : T α) j = none := by
 cases j with
 | zero => rfl
 | succ j => by_cases hj : j % 2 = 0 <;> simp [get_s, get_e, hj]
theorem put_some {α : Type} {v : α} : ∀ (f : Nat) (t : T α) (k j : Nat) (y : α), T.get (T.put t k v f) j = some y → (j = k ∧ y = v) ∨ T.get t j = some y
 | 0, t, k, j, y, h => .inr h
 | f + 1, t, k, j, y, h => by
  have key : ∀ (x : Option α) (l r : T α), T.get (T.put (.n x l r) k v (f + 1)) j = some y → (j = k ∧ y = v) ∨ T.get (.n x l r) j = some y := by
   intro x l r h
   cases k with
   | zero =>
    have h : T.get (.n (some v) l r) j = some y := h
    cases j with
    | zero => cases h; exact .inl ⟨rfl, rfl⟩
    | succ j => rw [get_s] at h; right; rw [get_s]; exact h
   | succ k =>
    rw [put_n] at h
    by_cases hm : k % 2 = 0
    ·
     rw [if_pos hm] at h
     cases j with
     | zero => exact .inr h
     | succ j =>
      rw [get_s] at h ⊢
      by_cases hj : j % 2 = 0
      · rw [if_pos hj] at h ⊢
        rcases put_some f _ _ _ _ h with ⟨h1, h2⟩ | h1
        · exact .inl ⟨by rw [parity (j := j) (k := k) (by omega) h1], h2⟩
        · exact .inr h1
      · rw [if_neg hj] at h ⊢
        exact .inr h
    ·
     rw [if_neg hm] at h
     cases j with
     | zero => exact .inr h
     | succ j =>
      rw [get_s] at h ⊢
      by_cases hj : j % 2 = 0
      · rw [if_pos hj] at h ⊢
        exact .inr h
      · rw [if_neg hj] at h ⊢
        rcases put_some f _ _ _ _ h with ⟨h1, h2⟩ | h1
        · exact .inl ⟨by rw [parity (j := j) (k := k) (by omega) h1], h2⟩
        · exact .inr h1
  cases t with
  | e =>
   rw [put_e] at h
   rcases key _ _ _ h with h1 | h1
   · exact .inl h1
   · rw [get_e'] at h1; cases h1
  | n x l r => exact key x l r h
structure LyOk (L : T Ly) (N : Nat) : Prop where
 le : ∀ t y, L.get t = some y → 1 ≤ y.p ∧ y.p + y.h.sz ≤ N
 ap : ∀ t y t' y', L.get t = some y → L.get t' = some y' → t ≠ t' → y.p + y.h.sz ≤ y'.p ∨ y'.p + y'.h.sz ≤ y.p
 na : ∀ t y p, L.get t = some y → y.h ≠ .a p
theorem LyOk.mono {L : T Ly} {N N' : Nat} (h : LyOk L N) (hN : N ≤ N') : LyOk L N' := ⟨fun t y e => ⟨(h.le t y e).1, Nat.le_trans (h.le t y e).2 hN⟩, h.ap, h.na⟩
theorem shOf_na (ti : TI) (p : Nat) : shOf ti ≠ .a p := by
 unfold shOf
 split <;> intro h <;> cases h
theorem lySh_ok {s : LS} (h : LyOk s.l s.p) (h1 : 1 ≤ s.p) (t : Nat) (hh : Sh) (hn : ∀ p, hh ≠ .a p) : LyOk (lySh t s hh).l (lySh t s hh).p ∧ 1 ≤ (lySh t s hh).p := by
 unfold lySh
 cases e : s.l.get t with
 | some y => exact ⟨h, h1⟩
 | none =>
  refine ⟨⟨fun t' y hy => ?_, fun t1 y1 t2 y2 e1 e2 hne => ?_, fun t' y p hy => ?_⟩, Nat.le_trans h1 (Nat.le_add_right _ _)⟩
  · have hy : (T.put s.l t ⟨s.p, hh⟩ 12).get t' = some y := hy
    rcases put_some _ _ _ _ _ hy with ⟨_, rfl⟩ | h2
    · exact ⟨h1, Nat.le_refl _⟩
    · exact ⟨(h.le _ _ h2).1, Nat.le_trans (h.le _ _ h2).2 (Nat.le_add_right _ _)⟩
  ·
   have e1 : (T.put s.l t ⟨s.p, hh⟩ 12).get t1 = some y1 := e1
   have e2 : (T.put s.l t ⟨s.p, hh⟩ 12).get t2 = some y2 := e2
   rcases put_some _ _ _ _ _ e1 with ⟨h2, rfl⟩ | h2 <;> rcases put_some _ _ _ _ _ e2 with ⟨h3, rfl⟩ | h3
   · exact absurd (h2.trans h3.symm) hne
   · exact .inr (h.le _ _ h3).2
   · exact .inl (h.le _ _ h2).2
   · exact h.ap _ _ _ _ h2 h3 hne
  · have hy : (T.put s.l t ⟨s.p, hh⟩ 12).get t' = some y := hy
    rcases put_some _ _ _ _ _ hy with ⟨_, rfl⟩ | h2
    · exact hn p
    · exact h.na _ _ p h2
def LsOk (s : LS) : Prop := LyOk s.l s.p ∧ 1 ≤ s.p
theorem lyAdd_ok {TY : T TI} {s : LS} (h : LsOk s) (t ty : Nat) : LsOk (lyAdd TY t ty s) := by
 unfold lyAdd
 cases TY.get ty with
 | none => exact h
 | some ti => exact lySh_ok h.1 h.2 t _ (shOf_na ti)
theorem lyBox_ok {TY : T TI} {s : LS} (h : LsOk s) (d ty : Nat) : LsOk (lyBox TY d ty s) := by
 unfold lyBox
 cases memN' d s.o with
 | false => exact lySh_ok h.1 h.2 d _ (fun p h => by cases h)
 | true =>
  cases TY.get ty with
  | none => exact h
  | some ti =>
   have := lySh_ok h.1 h.2 d (.b ti.sz) (fun p h => by cases h)
   revert this
   show LyOk (lySh d s (.b ti.sz)).l (lySh d s (.b ti.sz)).p ∧ 1 ≤ (lySh d s (.b ti.sz)).p → LsOk (LS.rec (motive := fun _ => LS) (fun l p a o => ⟨l, p, d :: a, o⟩) (lySh d s (.b ti.sz)))
   cases lySh d s (.b ti.sz)
   exact id
theorem lyOp_ok {TY : T TI} {s : LS} (h : LsOk s) (o : Oper) (r : List Oper) (d : Nat) : LsOk (lyOp TY o r d s) := by
 have hc : LsOk (lySh d s .c) := lySh_ok h.1 h.2 d _ (fun p h => by cases h)
 have hx : ∀ c : Bool, LsOk (iff' c ⟨s.l, s.p, d :: s.a, s.o⟩ (lySh d s .c)) := fun c => by
  cases c
  · exact hc
  · exact h
 unfold lyOp
 split
 · exact lyBox_ok h _ _
 · exact lyBox_ok h _ _
 · exact hx _
 · exact hx _
 · exact hc
 ·
  cases inA _ s with
  | false => exact lyAdd_ok h _ _
  | true =>
   show LsOk (match r, o.guard with | [], _ => lyAdd TY d o.type s | _, some _ => lyAdd TY d o.type s | _ :: _, none => s)
   split
   · exact lyAdd_ok h _ _
   · exact lyAdd_ok h _ _
   · exact h
 · split
   · exact lyAdd_ok h _ _
   · exact lyAdd_ok h _ _
   · exact h
 · exact lyAdd_ok h _ _
theorem lyOps_ok {TY : T TI} : ∀ (l : List Oper) (s : LS), LsOk s → LsOk (lyOps TY l s)
 | [], s, h => h
 | o :: r, s, h => by
  rw [lyOps]
  refine lyOps_ok r _ ?_
  split
  · exact lyOp_ok h _ _ _
  · exact h
theorem lyC_ok {TY : T TI} : ∀ (c : Code) (s : LS), LsOk s → LsOk (lyC TY c s) := by
 intro c
 induction c with
 | seq a b iha ihb => intro s h; rw [lyC]; exact ihb _ (iha _ h)
 | cond x a b iha ihb => intro s h; rw [lyC]; exact ihb _ (iha _ h)
 | block i c ih => intro s h; rw [lyC]; exact ih _ h
 | loop c ih => intro s h; rw [lyC]; exact ih _ h
 | region i ops d => intro s h; rw [lyC]; exact lyOps_ok _ _ h
 | _ => intro s h; unfold lyC; exact h
theorem lyP_ok {TY : T TI} : ∀ (l : List TypeId) (k : Nat) (s : LS), LsOk s → LsOk (lyP TY l k s)
 | [], k, s, h => h
 | t :: r, k, s, h => by rw [lyP]; exact lyP_ok r _ _ (lyAdd_ok h _ _)
end Go.Proofs.YtehpobojopmilaaGreat.Ev
namespace Go.Proofs.YtehpobojopmilaaGreat.Ev
set_option linter.unusedVariables false
set_option linter.unusedSimpArgs false
open Go
set_option maxRecDepth 4000
def GH : Nat := 1099511627776
def gpos (N g : Nat) : Nat := (g - GH) % N
structure BoxAt (N : Nat) (X : Loc → Vl) (fr d p k g : Nat) : Prop where
 tm : X (.tm d) = .gp g 0
 gh : GH ≤ g
 pos : gpos N g = p
 mt : ∃ ty, X (.mt g) = .mt k ty 0 true
 cl : ∀ i, i < k → X (.cl g i) = .c (cel fr (p + i))
structure FrOk (L : T Ly) (N : Nat) (fr : Nat) (X : Loc → Vl) : Prop where
 pl : ∀ t y, L.get t = some y → (∀ k, y.h ≠ .b k) → X (.tm t) = .v y.h (spn fr (72 * y.p) (mk y.h.sz))
 bx : ∀ d y k, L.get d = some y → y.h = .b k → 1 ≤ k → cel fr y.p % 8 ≠ 0 → ∃ g, BoxAt N X fr d y.p k g
def ValWf (tx : Tx) (L : T Ly) (b : Option Nat) (o : OdS) : Prop := (∃ v, cval tx v = some o) ∨ ∃ b' y p, b = some b' ∧ L.get b' = some y ∧ y.p ≤ p ∧ p + o.h.sz ≤ y.p + y.h.sz ∧ o.o = oT (72 * p) (mk o.h.sz)
def AdrWf (L : T Ly) (fr : Nat) (b : Option Nat) (o : OdS) (p : Nat) : Prop := o.o = oK 0 ∧ ∃ b' y k, b = some b' ∧ L.get b' = some y ∧ y.h = .b k ∧ 1 ≤ k ∧ y.p ≤ p ∧ cel fr y.p % 8 ≠ 0
def OdWf (tx : Tx) (L : T Ly) (fr : Nat) (b : Option Nat) (o : OdS) : Prop := ((∀ p, o.h ≠ .a p) → ValWf tx L b o) ∧ ∀ p, o.h = .a p → AdrWf L fr b o p
def OdIs (L : T Ly) (X : Loc → Vl) (fr : Nat) (b : Option Nat) (o : OdS) (t : Nat) : Prop := ((∀ p, o.h ≠ .a p) → X (.tm t) = .v o.h (o.o fr)) ∧ ∀ p, o.h = .a p → ∃ b' y g, b = some b' ∧ L.get b' = some y ∧ X (.tm b') = .gp g 0 ∧ X (.tm t) = .gp g (p - y.p)
structure AliOk (ops : Array Oper) (tx : Tx) (L : T Ly) (fr : Nat) (X : Loc → Vl) (a : Al) : Prop where
 np : ∀ y, L.get a.t = some y → ∃ k, y.h = .b k ∧ a.b = some a.t
 wf : OdWf tx L fr a.b a.o
 is : GdOn ops X a.g → OdIs L X fr a.b a.o a.t
def NZ (L : T Ly) (fr : Nat) (D : List Nat) : Prop := ∀ d, d ∈ D → ∃ y k, L.get d = some y ∧ y.h = .b k ∧ 1 ≤ k ∧ cel fr y.p % 8 ≠ 0
section
variable {ops : Array Oper} {tx : Tx} {L : T Ly} {N fr fr' : Nat} {X X' : Loc → Vl} {A : List Al} {G : Option (Nat × Bool)}
theorem alGet_cons (x : Al) (A : List Al) (t : Nat) (g : Option (Nat × Bool)) : alGet t g (x :: A) = iff' (Nat.beq x.t t) (iff' (gOk x.g g) (some x) none) (alGet t g A) := rfl
theorem alGet_some : ∀ {A : List Al} {t : Nat} {a : Al}, alGet t G A = some a → a ∈ A ∧ a.t = t ∧ gOk a.g G = true
 | [], t, a, h => by cases h
 | x :: A, t, a, h => by
  rw [alGet_cons] at h
  cases h1 : Nat.beq x.t t with
  | false =>
   rw [h1] at h
   obtain ⟨k1, k2⟩ := alGet_some (A := A) h
   exact ⟨List.mem_cons_of_mem _ k1, k2⟩
  | true =>
   rw [h1] at h
   cases h2 : gOk x.g G with
   | false => rw [h2] at h; cases h
   | true =>
    rw [h2] at h
    cases h
    exact ⟨List.mem_cons_self, beq_t h1, h2⟩
theorem gOk_on {g : Option (Nat × Bool)} (h : gOk g G = true) (hG : GdOn ops X G) : GdOn ops X g := by
 intro j x e
 subst e
 cases G with
 | none => cases h
 | some g =>
  obtain ⟨j', x'⟩ := g
  have h : iff' (Nat.beq j j') (iff' x x' (neg x')) false = true := h
  obtain ⟨h1, h2⟩ := iff_tt h
  have h1 := beq_t h1
  subst h1
  have : x = x' := by cases x <;> cases x' <;> simp_all [iff', neg]
  subst this
  exact hG j x rfl
theorem cOd_wf (hL : LyOk L N) (hA : ∀ a ∈ A, AliOk ops tx L fr X a) {x : Operand} {y : OdS} (h : cOd tx L A G x = some y) : OdWf tx L fr (baseOf A G x) y := by
 cases x with
 | tmp t =>
  rw [cOd] at h
  cases e : alGet t G A with
  | some a =>
   rw [e] at h
   cases h
   obtain ⟨h1, h2, h3⟩ := alGet_some e
   have : baseOf A G (.tmp t) = a.b := by show @Option.rec Al (fun _ => Option Nat) (some t) (fun a => a.b) (alGet t G A) = _; rw [e]
   rw [this]
   exact (hA a h1).wf
  | none =>
   rw [e] at h
   obtain ⟨ly, h1, h⟩ := bnd_some h
   have : baseOf A G (.tmp t) = some t := by show @Option.rec Al (fun _ => Option Nat) (some t) (fun a => a.b) (alGet t G A) = _; rw [e]
   rw [this]
   simp only [str_eq] at h
   have hy : y = ⟨oT (72 * ly.p) (mk ly.h.sz), ly.h⟩ := by
    split at h
    · cases h
    · cases h; rfl
   subst hy
   exact ⟨fun _ => .inr ⟨t, ly, ly.p, rfl, h1, Nat.le_refl _, Nat.le_refl _, rfl⟩, fun p hp => absurd hp (hL.na t ly p h1)⟩
 | const v =>
  have h : cval tx v = some y := h
  refine ⟨fun _ => .inl ⟨v, h⟩, fun p hp => ?_⟩
  have := cval_ok (s := fun _ => none) (fr := 0) h
  rw [hp] at this
  exact this.elim
 | _ => cases h
theorem cOd_is (hF : FrOk L N fr X) (hA : ∀ a ∈ A, AliOk ops tx L fr X a) (hL : LyOk L N) (hG : GdOn ops X G) {t : Nat} {y : OdS} (h : cOd tx L A G (.tmp t) = some y) : OdIs L X fr (baseOf A G (.tmp t)) y t := by
 rw [cOd] at h
 cases e : alGet t G A with
 | some a =>
  rw [e] at h
  cases h
  obtain ⟨h1, h2, h3⟩ := alGet_some e
  have : baseOf A G (.tmp t) = a.b := by show @Option.rec Al (fun _ => Option Nat) (some t) (fun a => a.b) (alGet t G A) = _; rw [e]
  rw [this]
  have := (hA a h1).is (gOk_on h3 hG)
  rw [h2] at this
  exact this
 | none =>
  rw [e] at h
  obtain ⟨ly, h1, h⟩ := bnd_some h
  simp only [str_eq] at h
  have hy : y = ⟨oT (72 * ly.p) (mk ly.h.sz), ly.h⟩ ∧ ∀ k, ly.h ≠ .b k := by
   split at h
   · cases h
   · rename_i hh
     cases h; exact ⟨rfl, fun k e => hh k e⟩
  obtain ⟨rfl, hb⟩ := hy
  exact ⟨fun _ => hF.pl t ly h1 hb, fun p hp => absurd hp (hL.na t ly p h1)⟩
theorem cOd_opd (hF : FrOk L N fr X) (hA : ∀ a ∈ A, AliOk ops tx L fr X a) (hL : LyOk L N) (hG : GdOn ops X G) {x : Operand} {y : OdS} (h : cOd tx L A G x = some y) : OpdIs tx X x y.h (y.o fr) := by
 cases x with
 | tmp t =>
  have h1 := cOd_is hF hA hL hG h
  have h2 := cOd_wf hL hA h
  by_cases hp : ∃ p, y.h = .a p
  · obtain ⟨p, hp⟩ := hp
    obtain ⟨h3, _⟩ := h2.2 p hp
    refine .inr ⟨⟨p, hp⟩, ?_⟩
    rw [h3]; rfl
  · exact .inl (h1.1 fun p e => hp ⟨p, e⟩)
 | const v =>
  have h : cval tx v = some y := h
  intro s
  have h1 := cval_ok (s := s) (fr := fr) h
  refine ⟨fun _ => h1, fun e h2 => ?_, h1.lt⟩
  rw [e] at h1
  exact absurd h2 (RC.ne h1)
 | _ => cases h
theorem adr_is (hF : FrOk L N fr X) (hA : ∀ a ∈ A, AliOk ops tx L fr X a) (hL : LyOk L N) {x : Operand} {p : Nat} (h : adr tx L A G x = some p) : ∃ t b y k, x = .tmp t ∧ baseOf A G x = some b ∧ L.get b = some y ∧ y.h = .b k ∧ 1 ≤ k ∧ y.p ≤ p ∧ cel fr y.p % 8 ≠ 0 ∧ (GdOn ops X G → ∃ g, BoxAt N X fr b y.p k g ∧ X (.tm t) = .gp g (p - y.p)) := by
 cases x with
 | tmp t =>
  obtain ⟨o, h1, h⟩ := bnd_some (show bnd (cOd tx L A G (.tmp t)) _ = some p from h)
  have hp : o.h = .a p := by
   split at h
   · rename_i q e; cases h; exact e
   · cases h
  obtain ⟨h2, b, y, k, h3, h4, h5, h6, h7, h8⟩ := (cOd_wf hL hA h1).2 p hp
  refine ⟨t, b, y, k, rfl, h3, h4, h5, h6, h7, h8, fun hG => ?_⟩
  obtain ⟨b', y', g, h9, h10, h11, h12⟩ := (cOd_is hF hA hL hG h1).2 p hp
  rw [h3] at h9; cases h9
  rw [h4] at h10; cases h10
  obtain ⟨g', hg'⟩ := hF.bx b y k h4 h5 h6 h8
  have := hg'.tm
  rw [h11] at this
  cases this
  exact ⟨g, hg', h12⟩
 | _ => cases h
theorem cGd_is (hF : FrOk L N fr X) (hA : ∀ a ∈ A, AliOk ops tx L fr X a) (hL : LyOk L N) {G' : Option (Nat × Bool)} {c : Option (Od × Nat)} (h : cGd tx L A G' ops.toList G = some c) : match c with | none => G = none | some (od, w) => (Nat.beq (od fr) w = true → GdOn ops X G) ∧ (Nat.beq (od fr) w = false → GdOff ops X G) := by
 cases G with
 | none => cases h; rfl
 | some g =>
  obtain ⟨j, w⟩ := g
  rw [cGd] at h
  obtain ⟨oj, h1, h⟩ := bnd_some h
  obtain ⟨d, h2, h⟩ := bnd_some h
  obtain ⟨od, h3, h⟩ := boc_some h
  simp only [str_eq] at h
  cases h
  rw [nth_eq, Array.getElem?_toList] at h1
  have hd : (ops[j]?).bind (·.dst) = some d := by rw [h1]; exact h2
  have hx : X (.tm d) = .v .c (od fr) := (cOd_is hF hA hL (G := none) (fun _ _ e => by cases e) h3).1 fun p e => by cases e
  refine ⟨fun hb => ?_, fun hb => ⟨j, w, d, od fr, rfl, hd, hx, hb⟩⟩
  intro j' x' e
  cases e
  have hb := beq_t hb
  exact ⟨d, hd, by rw [hx, hb]⟩
end
end Go.Proofs.YtehpobojopmilaaGreat.Ev
namespace Go.Proofs.YtehpobojopmilaaGreat.Ev
set_option linter.unusedVariables false
set_option linter.unusedSimpArgs false
open Go
set_option maxRecDepth 4000
section
variable {ops : Array Oper} {tx : Tx} {L : T Ly} {N fr fr' : Nat} {X X' : Loc → Vl} {A : List Al} {G : Option (Nat × Bool)}
def Agree (N fr fr' p n : Nat) : Prop := ∀ i, 1 ≤ i → i < N → ¬ (p ≤ i ∧ i < p + n) → cel fr' i = cel fr i
theorem spn_same {p k : Nat} (h : ∀ i, i < k → cel fr' (p + i) = cel fr (p + i)) : spn fr' (72 * p) (mk k) = spn fr (72 * p) (mk k) :=
 eq_of_cel (spn_lt _ _ _) (spn_lt _ _ _) fun i hi => by rw [cel_spn' hi, cel_spn' hi, h i hi]
theorem spn_is {p k v : Nat} (hv : v < 2 ^ (72 * k)) (h : ∀ i, i < k → cel fr' (p + i) = cel v i) : spn fr' (72 * p) (mk k) = v :=
 eq_of_cel (spn_lt _ _ _) hv fun i hi => by rw [cel_spn' hi, h i hi]
theorem put_agree {p n k v : Nat} (hp : 1 ≤ p) (hpn : p + n ≤ N) (hk : k < 2 ^ 40) (hv : v < 2 ^ (72 * n)) : Agree N fr (putF fr (72 * p) (kp N p n) k v) p n ∧ ∀ i, i < n → cel (putF fr (72 * p) (kp N p n) k v) (p + i) = cel v i := by
 refine ⟨fun i h1 h2 h3 => ?_, fun i hi => ?_⟩
 · rw [cel_putF hp hpn hk hv i h1 h2, if_neg h3]
 · rw [cel_putF hp hpn hk hv (p + i) (by omega) (by omega), if_pos (by omega)]
   congr 1; omega
theorem put_none {k v : Nat} (hN : 1 ≤ N) (hk : k < 2 ^ 40) : Agree N fr (putF fr (72 * N) (kp N N 0) k v) N 0 := by
 intro i h1 h2 _
 have e : cel (putF fr (72 * N) (kp N N 0) k v) i = cel (putF fr (72 * N) (kp N N 0) k 0) i := cel_eq fun q hq => by
  show ((Nat.add (Nat.land fr (kp N N 0)) k) ||| (v <<< (72 * N))).testBit _ = ((Nat.add (Nat.land fr (kp N N 0)) k) ||| (0 <<< (72 * N))).testBit _
  rw [Nat.testBit_or, Nat.testBit_or, Nat.testBit_shiftLeft, Nat.testBit_shiftLeft]
  have : ¬ 72 * i + q ≥ 72 * N := by omega
  simp [this]
 have e2 := cel_putF (c := fr) (p := N) (n := 0) (v := 0) hN (Nat.le_refl _) hk (Nat.two_pow_pos _) i h1 h2
 rw [if_neg (by omega)] at e2
 exact e.trans e2
theorem Agree.out {p n : Nat} (h : Agree N fr fr' p n) {y : Ly} (hy : 1 ≤ y.p ∧ y.p + y.h.sz ≤ N) (hd : y.p + y.h.sz ≤ p ∨ p + n ≤ y.p) {q k : Nat} (hq : y.p ≤ q) (hk : q + k ≤ y.p + y.h.sz) : ∀ i, i < k → cel fr' (q + i) = cel fr (q + i) := fun i hi => h _ (by omega) (by omega) (by omega)
structure Chg (L : T Ly) (N fr fr' : Nat) (d : Option Nat) : Prop where
 ag : ∀ t y, L.get t = some y → d ≠ some t → ∀ i, i < y.h.sz → cel fr' (y.p + i) = cel fr (y.p + i)
theorem Chg.of (hL : LyOk L N) {d : Nat} {y : Ly} (hy : L.get d = some y) {p n : Nat} (h : Agree N fr fr' p n) (h1 : y.p ≤ p) (h2 : p + n ≤ y.p + y.h.sz) : Chg L N fr fr' (some d) :=
 ⟨fun t yt ht hne => h.out (hL.le t yt ht) (by
   rcases hL.ap t yt d y ht hy (fun e => hne (by rw [e])) with h3 | h3
   · left; omega
   · right; omega) (Nat.le_refl _) (Nat.le_refl _)⟩
theorem Chg.none (hL : LyOk L N) (h : Agree N fr fr' N 0) : Chg L N fr fr' none :=
 ⟨fun t y ht _ => h.out (hL.le t y ht) (.inl (hL.le t y ht).2) (Nat.le_refl _) (Nat.le_refl _)⟩
theorem AliOk.keep {d : Option Nat} {a : Al} (h : AliOk ops tx L fr X a) (hc : Chg L N fr fr' d) (hb : ∀ b, a.b = some b → d ≠ some b) (hX : ∀ t, L.get t = none ∨ d ≠ some t → (a.t = t ∨ a.b = some t) → X' (.tm t) = X (.tm t)) (hat : d ≠ some a.t) (hg : GdOn ops X' a.g → GdOn ops X a.g) : AliOk ops tx L fr' X' a := by
 refine ⟨h.np, ⟨h.wf.1, fun p hp => ?_⟩, fun hG => ?_⟩
 · obtain ⟨h1, b, y, k, h2, h3, h4, h5, h6, h7⟩ := h.wf.2 p hp
   refine ⟨h1, b, y, k, h2, h3, h4, h5, h6, ?_⟩
   have := hc.ag b y h3 (hb b h2) 0 (by rw [h4]; exact h5)
   rw [Nat.add_zero] at this
   rw [this]; exact h7
 ·
  obtain ⟨h1, h2⟩ := h.is (hg hG)
  refine ⟨fun hp => ?_, fun p hp => ?_⟩
  ·
   rw [hX a.t (.inr hat) (.inl rfl), h1 hp]
   rcases h.wf.1 hp with ⟨v, hv⟩ | ⟨b, y, p, h3, h4, h5, h6, h7⟩
   ·
    have : a.o.o fr' = a.o.o fr := by
     unfold cval at hv
     split at hv
     · obtain ⟨l, _, e⟩ := bnd_some hv
       rw [← Option.some.inj e]; rfl
     · obtain ⟨l, _, e⟩ := bnd_some hv
       simp only [str_eq] at e
       rw [← Option.some.inj e]; rfl
    rw [this]
   · rw [h7]
     show _ = Vl.v _ (spn fr' (72 * p) (Go.Proofs.YtehpobojopmilaaGreat.Ev.mk a.o.h.sz))
     have e2 := spn_same (fr := fr) (fr' := fr') (p := p) (k := a.o.h.sz) fun i hi => by
      have := hc.ag b y h4 (hb b h3) (p - y.p + i) (by omega)
      rw [show y.p + (p - y.p + i) = p + i by omega] at this
      exact this
     rw [e2]; rfl
  · obtain ⟨b, y, g, h3, h4, h5, h6⟩ := h2 p hp
    exact ⟨b, y, g, h3, h4, by rw [hX b (.inr (hb b h3)) (.inr h3)]; exact h5, by rw [hX a.t (.inr hat) (.inl rfl)]; exact h6⟩
theorem NZ.keep {D : List Nat} {d : Option Nat} (h : NZ L fr D) (hc : Chg L N fr fr' d) (hd : ∀ t y k, d = some t → L.get t = some y → y.h = .b k → cel fr y.p % 8 ≠ 0 → cel fr' y.p % 8 ≠ 0) : NZ L fr' D := by
 intro t ht
 obtain ⟨y, k, h1, h2, h3, h4⟩ := h t ht
 refine ⟨y, k, h1, h2, h3, ?_⟩
 by_cases e : d = some t
 · exact hd t y k e h1 h2 h4
 · have := hc.ag t y h1 e 0 (by rw [h2]; exact h3)
   rw [Nat.add_zero] at this
   rw [this]; exact h4
theorem alOff_mem {all : List Oper} {d : Nat} {a : Al} : ∀ {A : List Al}, a ∈ alOff all (some d) A → a ∈ A ∧ a.b ≠ some d ∧ gdIs all a.g d = false
 | [], h => by cases h
 | x :: A, h => by
  have e : alOff all (some d) (x :: A) = iff' (gdIs all x.g d) (alOff all (some d) A) (Option.rec (x :: alOff all (some d) A) (fun b => iff' (Nat.beq b d) (alOff all (some d) A) (x :: alOff all (some d) A)) x.b) := rfl
  rw [e] at h
  have up : a ∈ alOff all (some d) A → a ∈ x :: A ∧ a.b ≠ some d ∧ gdIs all a.g d = false := fun h => by
   obtain ⟨k1, k2⟩ := alOff_mem (A := A) h
   exact ⟨List.mem_cons_of_mem _ k1, k2⟩
  cases h1 : gdIs all x.g d with
  | true => rw [h1] at h; exact up h
  | false =>
   rw [h1] at h
   cases h2 : x.b with
   | none =>
    rw [h2] at h
    rcases List.mem_cons.1 h with rfl | h
    · exact ⟨List.mem_cons_self, (by rw [h2]; intro h; cases h), h1⟩
    · exact up h
   | some b =>
    rw [h2] at h
    cases h3 : Nat.beq b d with
    | true =>
     have h : a ∈ iff' (Nat.beq b d) (alOff all (some d) A) (x :: alOff all (some d) A) := h
     rw [h3] at h; exact up h
    | false =>
     have h : a ∈ iff' (Nat.beq b d) (alOff all (some d) A) (x :: alOff all (some d) A) := h
     rw [h3] at h
     rcases List.mem_cons.1 h with rfl | h
     · refine ⟨List.mem_cons_self, ?_, h1⟩
       rw [h2]; intro h
       rw [Option.some.inj h, Nat.beq_refl d] at h3; cases h3
     · exact up h
theorem gd_same {g : Option (Nat × Bool)} {d : Nat} (hd : gdIs ops.toList g d = false) (hX : ∀ t, t ≠ d → X' (.tm t) = X (.tm t)) (h : GdOn ops X' g) : GdOn ops X g := by
 intro j x e
 obtain ⟨t, h1, h2⟩ := h j x e
 refine ⟨t, h1, ?_⟩
 rw [← hX t ?_]
 · exact h2
 ·
  intro et
  subst et
  subst e
  cases ho : ops[j]? with
  | none => rw [ho] at h1; cases h1
  | some oj =>
   rw [ho] at h1
   have h1 : oj.dst = some t := h1
   have e : gdIs ops.toList (some (j, x)) t = Option.rec false (fun o : Oper => Option.rec false (fun q => Nat.beq q t) o.dst) (nth ops.toList j) := rfl
   rw [e, nth_eq, Array.getElem?_toList, ho] at hd
   have hd : Option.rec false (fun q => Nat.beq q t) oj.dst = false := hd
   rw [h1] at hd
   have hd : Nat.beq t t = false := hd
   rw [show Nat.beq t t = true from Nat.beq_refl t] at hd
   cases hd
theorem put_ok (hL : LyOk L N) (hF : FrOk L N fr X) (hA : ∀ a ∈ A, AliOk ops tx L fr X a) {d : Nat} {y : Ly} {v : Nat} (hy : L.get d = some y) (hb : ∀ k, y.h ≠ .b k) (hag : Agree N fr fr' y.p y.h.sz) (hv : spn fr' (72 * y.p) (mk y.h.sz) = v) (hd : X' (.tm d) = .v y.h v) (ht : ∀ t, t ≠ d → X' (.tm t) = X (.tm t))
 (hm : ∀ g, GH ≤ g → X' (.mt g) = X (.mt g)) (hc : ∀ g i, GH ≤ g → X' (.cl g i) = X (.cl g i)) : FrOk L N fr' X' ∧ (∀ a ∈ alOff ops.toList (some d) A, AliOk ops tx L fr' X' a) ∧ ∀ D, NZ L fr D → NZ L fr' D := by
 have hch := Chg.of hL hy hag (Nat.le_refl _) (Nat.le_refl _)
 refine ⟨⟨fun t yt h1 h2 => ?_, fun t yt k h1 h2 h3 h4 => ?_⟩, fun a ha => ?_, fun D hD => hD.keep hch fun t y' k e h1 h2 _ => ?_⟩
 · by_cases e : t = d
   · subst e
     rw [hy] at h1; cases h1
     rw [hd, hv]
   · rw [ht t e, hF.pl t yt h1 h2, spn_same (fr := fr) (fr' := fr') fun i hi => hch.ag t yt h1 (fun e' => e (Option.some.inj e').symm) i hi]
 ·
  have e : t ≠ d := fun e => by subst e; rw [hy] at h1; cases h1; exact hb k h2
  have hcel : ∀ i, i < k → cel fr' (yt.p + i) = cel fr (yt.p + i) := fun i hi => hch.ag t yt h1 (fun e' => e (Option.some.inj e').symm) i (by rw [h2]; exact hi)
  have h0 := hcel 0 (by omega)
  rw [Nat.add_zero] at h0
  rw [h0] at h4
  obtain ⟨g, hg⟩ := hF.bx t yt k h1 h2 h3 h4
  refine ⟨g, by rw [ht t e]; exact hg.tm, hg.gh, hg.pos, by rw [hm g hg.gh]; exact hg.mt, fun i hi => by rw [hc g i hg.gh, hg.cl i hi, hcel i hi]⟩
 ·
  obtain ⟨h1, h2, h3⟩ := alOff_mem ha
  have hal := hA a h1
  have hat : a.t ≠ d := fun e => by
   obtain ⟨k, h4, _⟩ := hal.np y (by rw [e]; exact hy)
   exact hb k h4
  refine hal.keep hch (fun b hb' e => h2 (by rw [hb', e])) (fun t h4 h5 => ht t fun e => ?_) (fun e => hat (Option.some.inj e).symm) fun hG => gd_same h3 ht hG
  subst e
  rcases h5 with h5 | h5
  · exact hat h5
  · exact h2 h5
 · cases e
   rw [hy] at h1; cases h1
   exact absurd h2 (hb k)
theorem none_ok (hL : LyOk L N) (hF : FrOk L N fr X) (hA : ∀ a ∈ A, AliOk ops tx L fr X a) (hag : Agree N fr fr' N 0) (ht : ∀ t, X' (.tm t) = X (.tm t))
 (hm : ∀ g, GH ≤ g → X' (.mt g) = X (.mt g)) (hc : ∀ g i, GH ≤ g → X' (.cl g i) = X (.cl g i)) : FrOk L N fr' X' ∧ (∀ a ∈ A, AliOk ops tx L fr' X' a) ∧ ∀ D, NZ L fr D → NZ L fr' D := by
 have hch := Chg.none hL hag
 refine ⟨⟨fun t yt h1 h2 => ?_, fun t yt k h1 h2 h3 h4 => ?_⟩, fun a ha => ?_, fun D hD => hD.keep hch fun t y' k e h1 h2 _ => by cases e⟩
 · rw [ht t, hF.pl t yt h1 h2, spn_same (fr := fr) (fr' := fr') fun i hi => hch.ag t yt h1 (fun e => by cases e) i hi]
 ·
  have hcel : ∀ i, i < k → cel fr' (yt.p + i) = cel fr (yt.p + i) := fun i hi => hch.ag t yt h1 (fun e => by cases e) i (by rw [h2]; exact hi)
  have h0 := hcel 0 (by omega)
  rw [Nat.add_zero] at h0
  rw [h0] at h4
  obtain ⟨g, hg⟩ := hF.bx t yt k h1 h2 h3 h4
  refine ⟨g, by rw [ht t]; exact hg.tm, hg.gh, hg.pos, by rw [hm g hg.gh]; exact hg.mt, fun i hi => by rw [hc g i hg.gh, hg.cl i hi, hcel i hi]⟩
 · exact (hA a ha).keep hch (fun b _ e => by cases e) (fun t _ _ => ht t) (fun e => by cases e) fun hG j x e => by
    obtain ⟨t, h1, h2⟩ := hG j x e
    exact ⟨t, h1, by rw [← ht t]; exact h2⟩
end
end Go.Proofs.YtehpobojopmilaaGreat.Ev
