/- The evaluator, texts in one: EvQE EvQF EvG EvH EvI EvI2. Conditions: none. -/
import Derived.Test.YtehpobojopmilaaGreatZE4
import Derived.Below
namespace Go.Proofs.YtehpobojopmilaaGreat.Ev
set_option linter.unusedVariables false
set_option linter.unusedSimpArgs false
open Go
set_option maxRecDepth 4000
def ResAre (tx : Tx) (s : Sg) : List TI → Nat → List Value → Prop
 | [], v, vs => vs = [] ∧ v = 0
 | ti :: ts, v, vs => ∃ x vs', vs = x :: vs' ∧ VR tx s (shOf ti) (v % 2 ^ (72 * ti.sz)) x ∧ ResAre tx s ts (v >>> (72 * ti.sz)) vs'
def resV (tmps : Array Value) (r : ResultVar) : Sem Value := match r with
 | .tmp t => pure (tmps.getD t undef)
 | .cell a t => do loadVar t (← asAddr (tmps.getD a undef))
section
variable {P : Program} {TY : T TI} {tx : Tx} {nt N : Nat} {L : T Ly} {X0 : Loc → Vl} {bs : Nat}
theorem res_join {c l sz : Nat} (hc : c < 2 ^ (72 * sz)) : Nat.add c (Nat.shiftLeft l (72 * sz)) % 2 ^ (72 * sz) = c ∧ Nat.add c (Nat.shiftLeft l (72 * sz)) >>> (72 * sz) = l := by
 have e : Nat.add c (Nat.shiftLeft l (72 * sz)) = c + l * 2 ^ (72 * sz) := by
  show c + l <<< (72 * sz) = _
  rw [Nat.shiftLeft_eq]
 rw [e]
 refine ⟨by rw [Nat.add_mul_mod_self_right, Nat.mod_eq_of_lt hc], ?_⟩
 rw [Nat.shiftRight_eq_div_pow, Nat.add_mul_div_right _ _ (Nat.two_pow_pos _), Nat.div_eq_of_lt hc, Nat.zero_add]
theorem load_res {tmps : Array Value} {a : Nat} {t : TypeId} {b q : Nat} {w : World} {v : Value} (h1 : tmps.getD a undef = .pointer (some ⟨b, q, none⟩)) (h2 : (Instr.loadAt t (.pointer (some ⟨b, q, none⟩))).run P w = .ok v w) : (resV tmps (.cell a t)).run P w = .ok v w := by
 unfold resV
 simp only [h1]
 have : (Instr.loadAt t (.pointer (some ⟨b, q, none⟩))).run P w = (loadVar t ⟨b, q, none⟩).run P w := by
  simp [Instr.loadAt, Instr.sureAddr, go_sem]
 rw [this] at h2
 rw [Sem.run_bind]
 have h3 : (asAddr (.pointer (some ⟨b, q, none⟩))).run P w = .ok ⟨b, q, none⟩ w := by simp [asAddr, go_sem]
 rw [h3]
 exact h2
theorem cRes_ok (hT : ∀ t ti, TY.get t = some ti → tiOf P t = some ti) {fr : Nat} {m : Me} {X : Loc → Vl} : ∀ (rv : List ResultVar) (rt : List TypeId) (l : List PV) (κ : Nat → Bool), cRes TY L rv rt = some l → resAllK fr m.h l κ = true → FrOk L N fr X → HeapIs X m.h m.nx →
 ∃ v ts, cTys TY rt = some ts ∧ (∀ t ∈ ts, ∃ ty, varOf TY ty = some t) ∧ κ v = true ∧ rv.length = ts.length ∧ ∀ (s : Sg) (a : Act) (w : World), Rel tx nt s X a w → ∃ vs, ResAre tx s ts v vs ∧ All2 (fun r x => (resV a.tmps r).run P w = .ok x w) rv vs
 | [], [], l, κ, h, hr, hF, hH => by
  rw [cRes] at h; cases h
  exact ⟨0, [], rfl, (fun t ht => by cases ht), hr, rfl, fun s a w hR => ⟨[], ⟨rfl, rfl⟩, .nil⟩⟩
 | .tmp t :: rv, ty :: rt, l, κ, h, hr, hF, hH => by
  rw [cRes] at h
  obtain ⟨y, h1, h⟩ := bnd_some h
  obtain ⟨ti, h2, h⟩ := bnd_some h
  obtain ⟨h3, h⟩ := iff_some h
  obtain ⟨l', h4, h⟩ := bnd_some h
  simp only [str_eq] at h
  cases h
  have h3 := shEq_eq h3
  have hr : df (spn fr (72 * y.p) (mk ti.sz)) (resAllK fr m.h l' fun l => κ (Nat.add (spn fr (72 * y.p) (mk ti.sz)) (Nat.shiftLeft l (72 * ti.sz)))) = true := hr
  obtain ⟨h5, hr⟩ := df_t hr
  obtain ⟨v, ts, g1, g2, g3, g4, g5⟩ := cRes_ok hT rv rt l' _ h4 hr hF hH
  have hty := (varTy hT h2).1
  obtain ⟨j1, j2⟩ := res_join (l := v) (spn_lt fr (72 * y.p) ti.sz)
  have hs : y.h.sz = ti.sz := by rw [h3]; exact shOf_sz hT hty
  have hb : ∀ k, y.h ≠ .b k := fun k e => by
   rw [h3] at e
   unfold shOf at e
   split at e <;> cases e
  refine ⟨_, ti :: ts, by rw [cTys, hty, g1]; rfl, fun t' ht' => ?_, g3, by simp [g4], fun s a w hR => ?_⟩
  · rcases List.mem_cons.1 ht' with rfl | ht'
    · exact ⟨ty, h2⟩
    · exact g2 t' ht'
  · obtain ⟨vs, k1, k2⟩ := g5 s a w hR
    have hx := hR.tm t
    rw [hF.pl t y h1 hb, hs, h3] at hx
    refine ⟨_ :: vs, ⟨_, vs, rfl, by rw [j1]; exact hx.1 h5, by rw [j2]; exact k1⟩, .cons ?_ k2⟩
    rfl
 | .cell c t :: rv, ty :: rt, l, κ, h, hr, hF, hH => by
  rw [cRes] at h
  obtain ⟨y, h1, hA⟩ := bnd_some h
  obtain ⟨ti, h2, hB⟩ := bnd_some hA
  obtain ⟨h3, hC⟩ := iff_some hB
  obtain ⟨l', h4, hD⟩ := bnd_some hC
  simp only [str_eq] at hD
  have h3 := beq_t h3
  subst h3
  have hty := (varTy hT h2).1
  have hpos := varPos h2
  split at hD
  ·
   rename_i k hk
   obtain ⟨h5, hE⟩ := iff_some hD
   cases hE
   have h5 := beq_t h5
   subst h5
   have hr : df (spn fr (72 * y.p) (mk ti.sz)) (resAllK fr m.h l' fun l => κ (Nat.add (spn fr (72 * y.p) (mk ti.sz)) (Nat.shiftLeft l (72 * ti.sz)))) = true := hr
   obtain ⟨h6, hr⟩ := df_t hr
   obtain ⟨v, ts, g1, g2, g3, g4, g5⟩ := cRes_ok hT rv rt l' _ h4 hr hF hH
   obtain ⟨j1, j2⟩ := res_join (l := v) (spn_lt fr (72 * y.p) ti.sz)
   have hnz : cel fr y.p % 8 ≠ 0 := by
    have := cel_spn' (c := fr) (p := y.p) (k := ti.sz) (i := 0) (by omega)
    rw [Nat.add_zero] at this
    rw [← this, cel0_mod]; omega
   obtain ⟨g, hg⟩ := hF.bx c y ti.sz h1 hk hpos hnz
   obtain ⟨ety, hmt⟩ := hg.mt
   refine ⟨_, ti :: ts, by rw [cTys, hty, g1]; rfl, fun t' ht' => ?_, g3, by simp [g4], fun s a w hR => ?_⟩
   · rcases List.mem_cons.1 ht' with rfl | ht'
     · exact ⟨t, h2⟩
     · exact g2 t' ht'
   · obtain ⟨vs, k1, k2⟩ := g5 s a w hR
     have hx := hR.tm c
     rw [hg.tm] at hx
     obtain ⟨b, q, x1, x2⟩ := hx
     obtain ⟨cs, hb⟩ := blk_at hR.h hmt x1
     obtain ⟨x, x3, x4⟩ := load_ok hT h2 (q := 0) (r := spn fr (72 * y.p) (mk ti.sz)) hb (by omega) (spn_lt _ _ _) fun i hi => by rw [Nat.zero_add, hg.cl i hi, cel_spn' hi]
     exact ⟨x :: vs, ⟨x, vs, rfl, by rw [j1]; exact x3, by rw [j2]; exact k1⟩, .cons (load_res x2 x4) k2⟩
  ·
   rename_i hk
   cases hD
   have hr : pt (Nat.land (Nat.shiftRight fr (72 * y.p)) 4722366482869645213695) (fun id co => T.getK m.h id fun bk => iff' (Nat.ble (Nat.add co ti.sz) bk.n) (resAllK fr m.h l' fun l => κ (Nat.add (spn bk.c (72 * co) (mk ti.sz)) (Nat.shiftLeft l (72 * ti.sz)))) false) = true := hr
   obtain ⟨h6, id, co, hr, hp⟩ := pt_ok hr
   obtain ⟨bk, h7, hr⟩ := getK_some hr
   obtain ⟨h8, hr⟩ := iff_tt hr
   have h8 : co + ti.sz ≤ bk.n := ble_t h8
   obtain ⟨v, ts, g1, g2, g3, g4, g5⟩ := cRes_ok hT rv rt l' _ h4 hr hF hH
   obtain ⟨j1, j2⟩ := res_join (l := v) (spn_lt bk.c (72 * co) ti.sz)
   obtain ⟨h9, h10⟩ := hH.at_ id bk h7
   refine ⟨_, ti :: ts, by rw [cTys, hty, g1]; rfl, fun t' ht' => ?_, g3, by simp [g4], fun s a w hR => ?_⟩
   · rcases List.mem_cons.1 ht' with rfl | ht'
     · exact ⟨t, h2⟩
     · exact g2 t' ht'
   · obtain ⟨vs, k1, k2⟩ := g5 s a w hR
     have hx := hR.tm c
     rw [hF.pl c y h1 (fun k e => by rw [hk] at e; cases e), hk] at hx
     obtain ⟨b, q, x2, x1, _⟩ := hp tx s _ hx
     obtain ⟨cs, hb⟩ := blk_at hR.h h10.mt x1
     obtain ⟨x, x3, x4⟩ := load_ok hT h2 (q := co) (r := spn bk.c (72 * co) (mk ti.sz)) hb h8 (spn_lt _ _ _) fun i hi => by rw [h10.cl (co + i) (by omega), cel_spn' hi]
     exact ⟨x :: vs, ⟨x, vs, rfl, by rw [j1]; exact x3, by rw [j2]; exact k1⟩, .cons (load_res x2 x4) k2⟩
  · cases hD
 | [], ty :: rt, l, κ, h, hr, hF, hH => by simp [cRes] at h
 | .tmp t :: rv, [], l, κ, h, hr, hF, hH => by simp [cRes] at h
 | .cell c t :: rv, [], l, κ, h, hr, hF, hH => by simp [cRes] at h
theorem run_mapM_all {α β : Type} {f : α → Sem β} {w : World} : ∀ {l : List α} {vs : List β}, All2 (fun x v => (f x).run P w = .ok v w) l vs → (l.mapM f).run P w = .ok vs w
 | _, _, .nil => by simp [go_sem]
 | _, _, .cons h k => by
  rw [List.mapM_cons, Sem.run_bind, h]
  simp only [Result.andThen_ok]
  rw [Sem.run_bind, run_mapM_all k]
  simp [go_sem]
theorem results_ok {fn : Func} {a : Act} {w : World} {s : Sg} {ts : List TI} {v : Nat} {vs : List Value} (hT : ∀ t ti, TY.get t = some ti → tiOf P t = some ti) (hv : ∀ t ∈ ts, ∃ ty, varOf TY ty = some t) (hl : fn.results.toList.length = ts.length) (h1 : ResAre tx s ts v vs) (h2 : All2 (fun r x => (resV a.tmps r).run P w = .ok x w) fn.results.toList vs) :
 ∃ u, (results fn a.tmps).run P w = .ok u w ∧ VR tx s (retSh ts) v u := by
 have hrun : (fn.results.mapM (resV a.tmps)).run P w = .ok vs.toArray w := by
  have := run_mapM_all h2
  rw [Array.mapM_eq_mapM_toList]
  simp [this, go_sem]
 have hR : (results fn a.tmps).run P w = .ok (if h : vs.toArray.size = 1 then vs.toArray[0] else .tuple vs.toArray) w := by
  have e : results fn a.tmps = (do let vs ← fn.results.mapM (resV a.tmps); pure (if h : vs.size = 1 then vs[0] else .tuple vs)) := by
   unfold results
   congr 1
  rw [e, Sem.run_bind, hrun]
  rfl
 have hpart : ∀ (ts : List TI) (v : Nat) (vs : List Value), (∀ t ∈ ts, ∃ ty, varOf TY ty = some t) → ResAre tx s ts v vs → TRl tx s (ts.map fun t => (t.sz, match t.k with | .st _ => true | _ => false)) v vs := by
  intro ts
  induction ts with
  | nil => intro v vs _ h; exact h
  | cons t ts ih =>
   intro v vs hv h
   obtain ⟨x, vs', rfl, h3, h4⟩ := h
   refine ⟨x, vs', rfl, ?_, ih _ _ (fun t ht => hv t (List.mem_cons_of_mem _ ht)) h4⟩
   obtain ⟨ty, ht⟩ := hv t List.mem_cons_self
   obtain ⟨_, ag, i, z, g1, g2, g3, g4⟩ := varTy hT ht
   rw [g1] at h3
   have e : ag = (match t.k with | .st _ => true | _ => false) := by
    unfold shOf at g1
    split at g1
    · rename_i fs hk
      cases ag with
      | true => rw [hk]
      | false => cases g1
    · rename_i l hk
      cases ag <;> cases g1
    · rename_i k1 k2
      cases ag with
      | true => cases g1
      | false =>
       split
       · rename_i fs hk; exact absurd hk (k1 fs)
       · rfl
   rw [← e]
   cases ag with
   | true => exact h3
   | false => exact ⟨g3 rfl, h3⟩
 match ts, vs, hv, h1, hR with
 | [], vs, hv, h1, hR =>
  obtain ⟨rfl, rfl⟩ := h1
  exact ⟨_, hR, [], rfl, rfl, rfl⟩
 | [t], vs, hv, h1, hR =>
  obtain ⟨x, vs', rfl, h3, rfl, h4⟩ := h1
  refine ⟨x, hR, ?_⟩
  have : v % 2 ^ (72 * t.sz) = v := by
   rw [Nat.shiftRight_eq_div_pow] at h4
   exact Nat.mod_eq_of_lt (Nat.lt_of_div_eq_zero (Nat.two_pow_pos _) h4)
  rw [this] at h3
  exact h3
 | t1 :: t2 :: ts, vs, hv, h1, hR =>
  have hp := hpart _ _ _ hv h1
  obtain ⟨x1, vs1, rfl, _, x2, vs2, rfl, _⟩ := h1
  exact ⟨_, hR, _, rfl, hp⟩
end
end Go.Proofs.YtehpobojopmilaaGreat.Ev
namespace Go.Proofs.YtehpobojopmilaaGreat.Ev
set_option linter.unusedVariables false
set_option linter.unusedSimpArgs false
open Go
set_option maxRecDepth 4000
theorem flatN_t {z : Nat} : ∀ (n : Nat), flatN z n = true → ∀ i, i < n → cel z i % 8 < 6
 | 0, _, i, hi => by cases hi
 | n + 1, h, i, hi => by
  have h : iff' (Nat.ble 6 (Nat.land (Nat.shiftRight z (72 * n)) 7)) false (flatN z n) = true := h
  obtain ⟨h1, h2⟩ := iff_ft h
  by_cases e : i = n
  ·
   subst e
   rw [land7] at h1
   have h3 : ¬ 6 ≤ (z >>> (72 * i)) % 8 := fun h => by
    have := Nat.ble_eq_true_of_le h
    have h1 : Nat.ble 6 ((z >>> (72 * i)) % 8) = false := h1
    rw [this] at h1; cases h1
   unfold cel
   omega
  · exact flatN_t n h2 i (by omega)
theorem RC.flat {tx : Tx} {s s2 : Sg} {c : Nat} {v : Value} (h : RC tx s c v) (hc : c % 8 < 6) : RC tx s2 c v := by
 cases h with
 | i n m h h2 => exact .i n m h h2
 | b x => exact .b x
 | u n h => exact .u n h
 | s l h => exact .s l h
 | z off len h h1 h2 => exact .z off len h h1 h2
 | p0 => exact .p0
 | l0 => exact .l0
 | p id co b c h h1 h2 => omega
 | l id eo n es b c h h1 h2 h3 h4 h5 h6 => omega
 | e a c h => omega
theorem RL.flat {tx : Tx} {s s2 : Sg} {c k : Nat} {cs : List Value} (h : RL tx s c k cs) (hc : ∀ i, i < k → cel c i % 8 < 6) : RL tx s2 c k cs :=
 ⟨h.1, h.2.1, fun i hi => RC.flat (h.2.2 i hi) (hc i (by rw [← h.1]; exact hi))⟩
theorem cel_mod {c k i : Nat} (h : i < k) : cel (c % 2 ^ (72 * k)) i = cel c i := cel_eq fun q hq => by
 rw [Nat.testBit_mod_two_pow]
 have : 72 * i + q < 72 * k := by omega
 simp [this]
theorem cel_shr {c k i : Nat} : cel (c >>> (72 * k)) i = cel c (k + i) := cel_eq fun q hq => by
 rw [Nat.testBit_shiftRight]
 congr 1; omega
theorem TRl.flat {tx : Tx} {s s2 : Sg} : ∀ (l : List (Nat × Bool)) (c : Nat) (vs : List Value), TRl tx s l c vs → (∀ i, i < sumK l → cel c i % 8 < 6) → TRl tx s2 l c vs
 | [], c, vs, h, _ => h
 | (k, ag) :: r, c, vs, h, hc => by
  obtain ⟨v, vs', rfl, h1, h2⟩ := h
  have e : sumK ((k, ag) :: r) = k + sumK r := rfl
  rw [e] at hc
  refine ⟨v, vs', rfl, ?_, TRl.flat r _ _ h2 fun i hi => by rw [cel_shr]; exact hc (k + i) (by omega)⟩
  cases ag with
  | false =>
   obtain ⟨rfl, h1⟩ := h1
   refine ⟨rfl, RC.flat h1 ?_⟩
   have h3 := hc 0 (by omega)
   rw [cel0_mod] at h3
   have : c % 2 ^ (72 * 1) % 8 = c % 2 ^ 72 % 8 := rfl
   omega
  | true =>
   obtain ⟨cs, e, h3⟩ := h1
   exact ⟨cs, e, h3.flat fun i hi => by rw [cel_mod hi]; exact hc i (by omega)⟩
theorem VR.flat {tx : Tx} {s s2 : Sg} {h : Sh} {c : Nat} {v : Value} (k : VR tx s h c v) (hc : ∀ i, i < h.sz → cel c i % 8 < 6) : VR tx s2 h c v := by
 cases h with
 | c =>
  refine RC.flat k ?_
  have h3 := hc 0 (by show 0 < 1; omega)
  rw [cel_one (RC.lt k)] at h3
  exact h3
 | g n =>
  obtain ⟨cs, e, h3⟩ := k
  exact ⟨cs, e, h3.flat hc⟩
 | t l =>
  obtain ⟨vs, e, h3⟩ := k
  exact ⟨vs, e, TRl.flat l _ _ h3 hc⟩
 | b _ => exact k.elim
 | a _ => exact k.elim
theorem RelH.recell {tx : Tx} {s : Sg} {X X2 : Loc → Vl} {w : World} (h : RelH tx s X w) (hm : ∀ i, X2 (.mt i) = X (.mt i)) (hc : ∀ id n ty es ex, X (.mt id) = .mt n ty es ex → ∀ k, k < n → X2 (.cl id k) = X (.cl id k)) : RelH tx s X2 w :=
 ⟨fun id n ty es ex hx => by
   rw [hm] at hx
   obtain ⟨b, k, cs, g⟩ := h.bl id n ty es ex hx
   exact ⟨b, k, cs, g.mono s.le_refl rfl fun i c hi hx' => by rw [hc id n ty es ex hx i hi] at hx'; exact hx'⟩,
  fun i j b k k' hi hj => by rw [hm] at hi hj; exact h.inj i j b k k' hi hj, h.lt⟩
section
variable {P : Program} {TY : T TI} {tx : Tx} {nt N : Nat} {L : T Ly}
theorem post_full {rs : List TI} {a v fr' γ' : Nat} {m m' : Me} {D : List Nat} {X X' : Loc → Vl} {s s' : Sg} {w w' : World} {a' : Act} {u : Value} (hH : HeapIs X m.h m.nx) (hs : ∀ i, m.nx ≤ i → s i = none) (h : AtS tx nt N L (XE L m.h a) m.nx s w D fr' m' γ' X' s' a' w') (hv : VR tx s' (retSh rs) v u) :
 ∃ Xf, CallPost tx rs m v m' s X w (cut s' m'.nx) Xf w' u := by
 classical
 have hE := XE_heap (L := L) (a := a) hH
 have hb := h.hp.b
 have hnx := h.hp.hp.nx
 -- the cells of a block that lives, of those that there were
 have old : ∀ id n ty es ex, id < m.nx → X' (.mt id) = .mt n ty es ex → ∀ k, k < n → XE L m.h a (.cl id k) = X (.cl id k) := fun id n ty es ex hid hx k hk => by
  obtain ⟨k1, k2⟩ := heap_same hE hH hid
  rcases h.hp.mt id hid with g | ⟨g, _⟩
  · rw [g, k1] at hx
    exact k2 n ty es ex hx k hk
  · rw [g] at hx; cases hx
 let Xf : Loc → Vl := fun l => match l with
  | .tm t => .no
  | .mt id => if id < m'.nx then X' (.mt id) else .no
  | .cl id k => if id < m.nx ∧ X' (.cl id k) = XE L m.h a (.cl id k) then X (.cl id k) else X' (.cl id k)
 have hcl : ∀ id n ty es ex, X' (.mt id) = .mt n ty es ex → ∀ k, k < n → Xf (.cl id k) = X' (.cl id k) := fun id n ty es ex hx k hk => by
  show (if id < m.nx ∧ X' (.cl id k) = XE L m.h a (.cl id k) then X (.cl id k) else X' (.cl id k)) = _
  by_cases hc : id < m.nx ∧ X' (.cl id k) = XE L m.h a (.cl id k)
  · rw [if_pos hc, hc.2, old id n ty es ex hc.1 hx k hk]
  · rw [if_neg hc]
 have hpre := call_pre h.rel.h m'.nx fun id n ty es ex hid hx k c hk hx' => by
  obtain ⟨b, q, cs, g⟩ := h.rel.h.bl id n ty es ex hx
  obtain ⟨v, _, h2⟩ := g.cl k c hk hx'
  exact RC.cut h2 h.fs.1
 have hsd : ∀ i x, s i = some x → i < m.nx := fun i x e => by
  by_cases hi : i < m.nx
  · exact hi
  · rw [hs i (by omega)] at e; cases e
 refine ⟨Xf, ⟨⟨fun i x e => ?_, fun i x e => ?_, fun i b c e e0 => ?_, h.tr.os, h.tr.tape, h.tr.output, h.tr.size, fun b hb hl => ?_⟩, ?_, ?_, fun id hid => ?_, fun id k hid => ?_, ?_⟩⟩
 · have := hsd i x e
   exact (if_pos (show i < m'.nx by omega)).trans (h.tr.le i x e)
 ·
  have e : (if i < m'.nx then s' i else none) = some x := e
  by_cases hi : i < m'.nx
  · rw [if_pos hi] at e
    rcases h.tr.dom i x e with g | ⟨g, g'⟩
    · exact .inl g
    · exact .inr ⟨g, g', hi⟩
  · rw [if_neg hi] at e; cases e
 ·
  have e : (if i < m'.nx then s' i else none) = some (b, c) := e
  by_cases hi : i < m'.nx
  · rw [if_pos hi] at e
    rcases h.tr.new i b c e e0 with g | ⟨j, c', g, g'⟩
    · exact .inl g
    · rcases g with g | g
      · have := hsd j _ g'; omega
      · exact .inr ⟨j, c', g, g'⟩
  · rw [if_neg hi] at e; cases e
 · refine h.tr.keep b hb fun i c hi e => ?_
   rcases hi with hi | hi
   · have := hsd i _ e; omega
   · exact hl i c hi e
 ·
  refine hpre.recell (fun i => rfl) fun id n ty es ex hx k hk => ?_
  have hx : (if id < m'.nx then X' (.mt id) else Vl.no) = .mt n ty es ex := hx
  by_cases hi : id < m'.nx
  · rw [if_pos hi] at hx
    exact hcl id n ty es ex hx k hk
  · rw [if_neg hi] at hx; cases hx
 · refine ⟨fun id bk e => ?_, fun id hid e => (if_pos hid).trans (h.hp.hp.no id hid e), hnx⟩
   obtain ⟨g1, g2⟩ := h.hp.hp.at_ id bk e
   exact ⟨g1, (if_pos g1).trans g2.mt, fun i hi => (hcl id _ _ _ _ g2.mt i hi).trans (g2.cl i hi), g2.n, g2.lt⟩
 · have e : Xf (.mt id) = X' (.mt id) := if_pos (show id < m'.nx by omega)
   rw [e, ← (heap_same hE hH hid).1]
   exact h.hp.mt id hid
 · rcases h.hp.cl id k hid with g | g
   · left
     exact if_pos ⟨hid, g⟩
   · exact .inr g
 · exact VR.cut hv h.fs.1 hv
theorem post_flat {rs : List TI} {a v fr' γ' : Nat} {m m' : Me} {D : List Nat} {X X' : Loc → Vl} {s s' : Sg} {w w' : World} {a' : Act} {u : Value} (hH : HeapIs X m.h m.nx) (hR : RelH tx s X w) (hs : ∀ i, m.nx ≤ i → s i = none) (h : AtS tx nt N L (XE L m.h a) m.nx s w D fr' m' γ' X' s' a' w') (hlg : m'.lg = []) (hm : m.lg = [])
 (hv : VR tx s' (retSh rs) v u) (hf : ∀ i, i < (retSh rs).sz → cel v i % 8 < 6) : CallPost tx rs m v m s X w s X w' u := by
 have hkeep : ∀ b, b < w.heap.size → w'.heap[b]? = w.heap[b]? := fun b hb => h.tr.keep b hb fun i c hi e => by
  rcases hi with hi | ⟨q, hq, _⟩
  · rw [hs i hi] at e; cases e
  · rw [hlg] at hq; cases hq
 refine ⟨⟨s.le_refl, fun _ _ h => .inl h, fun i b c e e0 => (by rw [e0] at e; cases e), h.tr.os, h.tr.tape, h.tr.output, h.tr.size, fun b hb _ => hkeep b hb⟩, ⟨fun id n ty es ex hx => ?_, hR.inj, fun i b k e => Nat.lt_of_lt_of_le (hR.lt i b k e) h.tr.size⟩, hH, fun id _ => .inl rfl, fun id k _ => .inl rfl, hv.flat hf⟩
 obtain ⟨b, k, cs, g⟩ := hR.bl id n ty es ex hx
 exact ⟨b, k, cs, g.mono s.le_refl (hkeep b (hR.lt _ _ _ g.at_)) fun i c _ hx' => hx'⟩
theorem retSh_sz (hT : ∀ t ti, TY.get t = some ti → tiOf P t = some ti) : ∀ {ts : List TI}, (∀ t ∈ ts, (shOf t).sz = t.sz) → (retSh ts).sz = sumTs ts := by
 have key : ∀ ts : List TI, sumK (ts.map fun t => (t.sz, match t.k with | .st _ => true | _ => false)) = sumTs ts := fun ts => by
  induction ts with
  | nil => rfl
  | cons t ts ih =>
   show t.sz + sumK (ts.map fun t => (t.sz, match t.k with | .st _ => true | _ => false)) = t.sz + sumTs ts
   rw [ih]
 intro ts h
 match ts, h with
 | [], _ => rfl
 | [t], h =>
  show (shOf t).sz = t.sz + 0
  rw [h t List.mem_cons_self]; omega
 | t1 :: t2 :: ts, h => exact key (t1 :: t2 :: ts)
theorem flatC_n : ∀ (l : List TypeId) (ts : List TI), cTys TY l = some ts → (List.rec (motive := fun _ => Nat) 0 (fun t _ ih => Option.rec 0 (fun ti : TI => Nat.add ti.sz ih) (TY.get t)) l) = sumTs ts
 | [], ts, h => by rw [cTys] at h; cases h; rfl
 | x :: l, ts, h => by
  rw [cTys] at h
  obtain ⟨i, h1, h⟩ := bnd_some h
  obtain ⟨r, h2, h⟩ := bnd_some h
  cases h
  have ih := flatC_n l r h2
  show @Option.rec TI (fun _ => Nat) 0 (fun ti => Nat.add ti.sz (List.rec (motive := fun _ => Nat) 0 (fun t _ ih => Option.rec 0 (fun ti : TI => Nat.add ti.sz ih) (TY.get t)) l)) (TY.get x) = _
  rw [h1]
  show i.sz + _ = i.sz + sumTs r
  rw [← ih]
theorem backF_t {m0 m : Me} {κ : KM} {v fl : Nat} (h : backF m0 κ m v fl = true) : κ v m = true ∨ (κ v m0 = true ∧ m.lg = [] ∧ ∃ n, fl = n + 1 ∧ flatN v n = true) := by
 cases fl with
 | zero => exact .inl h
 | succ n =>
  have h : iff' (flatN v n) (List.rec (motive := fun _ => Bool) (κ v m0) (fun _ _ _ => κ v m) m.lg) (κ v m) = true := h
  cases hf : flatN v n with
  | false => rw [hf] at h; exact .inl h
  | true =>
   rw [hf] at h
   have h : List.rec (motive := fun _ => Bool) (κ v m0) (fun _ _ _ => κ v m) m.lg = true := h
   cases hl : m.lg with
   | nil => rw [hl] at h; exact .inr ⟨h, rfl, n, rfl, hf⟩
   | cons q l => rw [hl] at h; exact .inl h
theorem evCall_ok (E : En) (hT : ∀ t ti, E.TY.get t = some ti → tiOf E.P t = some ti) (hname : ∀ (f : FuncId) (fn : Func), E.P.funcs[f]? = some fn → (fn.name == "runtime.NumGoroutine") = false) (hmx : E.P.follows .mixedOrders = true) : ∀ n, CallsOk E.P E.tx E.TY (evCall E n) := by
 intro n
 induction n with
 | zero => intro g a m κ h; cases h
 | succ n ih =>
  intro g a m κ h hlg hpre
  have h : Option.rec false (fun fn => PF.rec (motive := fun _ => Bool) (evF n (evCall E n) a m κ) fn) (cF E.P E.TY E.O E.tx g) = true := h
  cases hcF : cF E.P E.TY E.O E.tx g with
  | none => rw [hcF] at h; cases h
  | some pf =>
   rw [hcF] at h
   unfold cF at hcF
   obtain ⟨fn, h1, hcF⟩ := bnd_some hcF
   obtain ⟨code, h2, hcF⟩ := bnd_some hcF
   unfold cF1 at hcF
   obtain ⟨h3, hcF⟩ := iff_some hcF
   obtain ⟨h4, hcF⟩ := iff_some hcF
   obtain ⟨l, h5, hcF⟩ := bnd_some hcF
   rw [str_eq] at hcF
   obtain ⟨kc, h6, hcF⟩ := bbc_some hcF
   have hcF := Option.some.inj hcF
   subst hcF
   obtain ⟨Ls, hLs⟩ : ∃ Ls, Ls = lyC E.TY code (lyP E.TY fn.params.toList 0 ⟨.e, 1, [], Option.rec [] (fun l => l) (E.O.get g)⟩) := ⟨_, rfl⟩
   rw [← hLs] at h4 h5 h6
   have hly : LsOk Ls := by
    rw [hLs]
    exact lyC_ok code _ (lyP_ok _ _ _ ⟨⟨fun t y e => (by cases e), fun t y t' y' e => (by cases e), fun t y p e => (by cases e)⟩, Nat.le_refl _⟩)
   obtain ⟨hL, hN⟩ := hly
   have h : kc ⟨evCall E n, m.nx, n⟩ ⟨backK l (flatC E.TY fn.resultTypes.toList) m κ, backK l (flatC E.TY fn.resultTypes.toList) m κ, noX⟩ a m = true := h
   have h3 : fn.params.toList.length ≤ fn.ntmps := by have := ble_t h3; rw [lenL_eq] at this; exact this
   obtain ⟨fn', ts, s1, X1, w1, args1, p1, p2, p3, p4, p5, p6⟩ := hpre
   rw [h1] at p1; cases p1
   have hent := entry_ok hT hL hlg h4 p2 h3 p3 p4 p5 p6
   obtain ⟨e, fr', m', γ', X', q1, q2⟩ := cC_ok (X0 := XE Ls.l m.h a) (c := ⟨evCall E n, m.nx, n⟩) (nt := fn.ntmps) hT hname hmx hL hN ih code [] kc h6 _ a m 0 (XE Ls.l m.h a) h ⟨_, _, _, _, _, hent⟩
   obtain ⟨e', b1, v1, rfl, t1, hm1⟩ := wp_ex (q2 _ _ _ _ _ hent)
   have hback : backK l (flatC E.TY fn.resultTypes.toList) m κ fr' m' = true ∧ (e' = .normal ∨ e' = .ret) := by
    cases e' with
    | normal => exact ⟨q1, .inl rfl⟩
    | ret => exact ⟨q1, .inr rfl⟩
    | exit j => cases q1
    | _ => exact q1.elim
   obtain ⟨hback, hend⟩ := hback
   obtain ⟨v, ts2, r1, r2, r3, r4, r5⟩ := cRes_ok (nt := fn.ntmps) (tx := E.tx) hT _ _ l _ h5 hback hm1.fok hm1.hp.hp
   rw [str_eq] at r3
   have hdef : ∀ (m2 : Me), κ v m2 = true → (m2 = m' ∨ (m2 = m ∧ m'.lg = [] ∧ ∃ k, flatC E.TY fn.resultTypes.toList = k + 1 ∧ flatN v k = true)) → ∃ v m', κ v m' = true ∧ CallOk E.P E.tx E.TY g a m v m' := fun m2 hk hm2 => by
    have hnx := hm1.hp.b
    refine ⟨v, m2, hk, ⟨?_, fn, code, h1, h2, fun ts' rs' t1' t2' s X w args hH hR hs hA => ?_⟩⟩
    · rcases hm2 with rfl | ⟨rfl, _⟩
      · exact hnx
      · exact Nat.le_refl _
    ·
     rw [p2] at t1'; cases t1'
     rw [r1] at t2'; cases t2'
     have hE := XE_heap (L := Ls.l) (a := a) hH
     refine ⟨fun q hq => ?_, ?_, ?_⟩
     · rcases hm2 with rfl | ⟨rfl, _⟩
       · obtain ⟨g1, g2⟩ := hm1.hp.lg q hq
         exact ⟨g1, by rw [← (heap_same hE hH g1).1]; exact g2⟩
       · rw [hlg] at hq; cases hq
     · rcases hm2 with rfl | ⟨rfl, _⟩
       · exact hm1.hp.hp.nx
       · exact hH.nx
     ·
      have hen := entry_ok hT hL hlg h4 p2 h3 hH hR hs hA
      refine calls_of_wp h1 h2 (wp_mono (q2 _ _ _ _ _ hen) fun e2 a2 w2 hh => ?_)
      obtain ⟨rfl, s2, hs2⟩ := hh
      obtain ⟨vs, k1, k2⟩ := r5 s2 a2 w2 hs2.rel
      obtain ⟨u, k3, k4⟩ := results_ok (P := E.P) hT r2 r4 k1 k2
      have fin : a2.defers = [] ∧ ∃ v', (results fn a2.tmps).run E.P w2 = .ok v' w2 ∧ ∃ s' X' u, Ending.returned v' = .returned u ∧ CallPost E.tx ts2 m v m2 s X w s' X' w2 u := by
       refine ⟨hs2.rel.defers, u, k3, ?_⟩
       rcases hm2 with rfl | ⟨rfl, hl2, kk, f1, f2⟩
       · obtain ⟨Xf, hp⟩ := post_full hH hs hs2 k4
         exact ⟨_, Xf, u, rfl, hp⟩
       ·
        refine ⟨s, X, u, rfl, post_flat hH hR hs hs2 hl2 hlg k4 fun i hi => flatN_t kk f2 i ?_⟩
        rw [retSh_sz hT (cTys_sz hT _ _ r1)] at hi
        have : kk = sumTs ts2 := by
         unfold flatC at f1
         cases hfl : flatT E.TY fn.resultTypes.toList with
         | false => rw [hfl] at f1; cases f1
         | true =>
          rw [hfl] at f1
          have f1 : Nat.succ (List.rec (motive := fun _ => Nat) 0 (fun t _ ih => Option.rec 0 (fun ti : TI => Nat.add ti.sz ih) (E.TY.get t)) fn.resultTypes.toList) = kk + 1 := f1
          rw [flatC_n _ _ r1] at f1
          omega
        omega
      rcases hend with rfl | rfl
      · exact fin
      · exact fin
   rcases backF_t r3 with g1 | ⟨g1, g2, g3⟩
   · exact hdef m' g1 (.inl rfl)
   · exact hdef m g1 (.inr ⟨rfl, g2, g3⟩)
end
end Go.Proofs.YtehpobojopmilaaGreat.Ev
namespace Go.Proofs.YtehpobojopmilaaGreat.Ev
set_option linter.unusedVariables false
set_option linter.unusedSimpArgs false
open Go
set_option maxRecDepth 4000
def eqB : Bool → Bool → Bool
 | true, true => true
 | false, false => true
 | _, _ => false
def fsEq : List (Nat × Nat × Bool) → List (Nat × Nat × Bool) → Bool
 | [], [] => true
 | a :: l, b :: r => Nat.beq a.1 b.1 && (Nat.beq a.2.1 b.2.1 && (eqB a.2.2 b.2.2 && fsEq l r))
 | _, _ => false
noncomputable def tkEq : TK → TK → Bool
 | .st a, .st b => fsEq a b
 | .sl a, .sl b => Nat.beq a b
 | .it .i64, .it .i64 => true
 | .it .u8, .it .u8 => true
 | .str, .str => true
 | .tu a, .tu b => leqK a b
 | .other, .other => true
 | _, _ => false
noncomputable def tiEq (a b : TI) : Bool := Nat.beq a.sz b.sz && (Nat.beq a.zero b.zero && tkEq a.k b.k)
theorem fsEq_t : ∀ {a b : List (Nat × Nat × Bool)}, fsEq a b = true → a = b
 | [], [], _ => rfl
 | [], _ :: _, h => by cases h
 | _ :: _, [], h => by cases h
 | (a1, a2, a3) :: l, (b1, b2, b3) :: r, h => by
  have h : (Nat.beq a1 b1 && (Nat.beq a2 b2 && (eqB a3 b3 && fsEq l r))) = true := h
  simp only [Bool.and_eq_true] at h
  obtain ⟨h1, h2, h3, h4⟩ := h
  have e : a3 = b3 := by cases a3 <;> cases b3 <;> first | rfl | cases h3
  rw [beq_t h1, beq_t h2, e, fsEq_t h4]
theorem leqK_t : ∀ {a b : List (Nat × Bool)}, leqK a b = true → a = b := fun {a b} h => by
 have : shEq (.t a) (.t b) = true := h
 cases shEq_eq this; rfl
theorem tiEq_t {a b : TI} (h : tiEq a b = true) : a = b := by
 obtain ⟨a1, a2, a3⟩ := a
 obtain ⟨b1, b2, b3⟩ := b
 have h : (Nat.beq a1 b1 && (Nat.beq a2 b2 && tkEq a3 b3)) = true := h
 simp only [Bool.and_eq_true] at h
 obtain ⟨h1, h2, h3⟩ := h
 have e : a3 = b3 := by
  unfold tkEq at h3
  split at h3
  · rw [fsEq_t h3]
  · rw [beq_t h3]
  · rfl
  · rfl
  · rfl
  · rw [leqK_t h3]
  · rfl
  · cases h3
 rw [beq_t h1, beq_t h2, e]
noncomputable def chkT (P : Program) (t : T TI) : (Nat → Nat) → Bool := T.rec (motive := fun _ => (Nat → Nat) → Bool) (fun _ => true)
 (fun x _ _ cl cr f => (Option.rec true (fun ti => Option.rec false (fun tj => tiEq tj ti) (tiOf P (f 0))) x : Bool) && (cl (fun j => f (Nat.add (Nat.mul 2 j) 1)) && cr (fun j => f (Nat.add (Nat.mul 2 j) 2)))) t
theorem chkT_t {P : Program} : ∀ {t : T TI} {f : Nat → Nat}, chkT P t f = true → ∀ k ti, T.get t k = some ti → tiOf P (f k) = some ti := by
 intro t
 induction t with
 | e => intro f _ k ti h; cases h
 | n x l r ihl ihr =>
  intro f h k ti hk
  have h : ((Option.rec true (fun ti => Option.rec false (fun tj => tiEq tj ti) (tiOf P (f 0))) x : Bool) && (chkT P l (fun j => f (Nat.add (Nat.mul 2 j) 1)) && chkT P r (fun j => f (Nat.add (Nat.mul 2 j) 2)))) = true := h
  simp only [Bool.and_eq_true] at h
  obtain ⟨h1, h2, h3⟩ := h
  cases k with
  | zero =>
   have hk : x = some ti := hk
   subst hk
   have h1 : Option.rec false (fun tj => tiEq tj ti) (tiOf P (f 0)) = true := h1
   cases e : tiOf P (f 0) with
   | none => rw [e] at h1; cases h1
   | some tj =>
    rw [e] at h1
    rw [tiEq_t (show tiEq tj ti = true from h1)]
  | succ k =>
   rw [get_s] at hk
   by_cases hm : k % 2 = 0
   · rw [if_pos hm] at hk
     have := ihl h2 _ _ hk
     have e : Nat.add (Nat.mul 2 (k / 2)) 1 = k + 1 := by show 2 * (k / 2) + 1 = k + 1; omega
     rw [e] at this; exact this
   · rw [if_neg hm] at hk
     have := ihr h3 _ _ hk
     have e : Nat.add (Nat.mul 2 (k / 2)) 2 = k + 1 := by show 2 * (k / 2) + 2 = k + 1; omega
     rw [e] at this; exact this
def chkN (l : List Func) : Bool := match l with
 | [] => true
 | fn :: r => !(fn.name == "runtime.NumGoroutine") && chkN r
theorem chkN_t : ∀ {l : List Func}, chkN l = true → ∀ fn ∈ l, (fn.name == "runtime.NumGoroutine") = false
 | [], _, fn, h => by cases h
 | x :: l, h, fn, hf => by
  rw [chkN, Bool.and_eq_true] at h
  rcases List.mem_cons.1 hf with rfl | hf
  · simpa using h.1
  · exact chkN_t h.2 fn hf
end Go.Proofs.YtehpobojopmilaaGreat.Ev
namespace Go.Proofs.YtehpobojopmilaaGreat.Ev
set_option linter.unusedVariables false
set_option linter.unusedSimpArgs false
open Go
open Go.RowKit
set_option maxRecDepth 4000
structure EvSt (tx : Tx) (m : Me) (s : Sg) (X : Loc → Vl) (w : World) : Prop where
 heap : HeapIs X m.h m.nx
 rel : RelH tx s X w
 fs : ∀ i, m.nx ≤ i → s i = none
theorem EvSt.start (tx : Tx) (w : World) : EvSt tx ⟨.e, 0, []⟩ (fun _ => none) (fun _ => .no) w :=
 ⟨⟨fun id bk h => (by cases h), fun id h => (by cases h), Nat.zero_le _⟩, ⟨fun id n ty es ex h => (by cases h), fun i j b k k' h => absurd rfl h, fun i b k h => (by cases h)⟩, fun _ _ => rfl⟩
theorem EvSt.keep {tx : Tx} {m : Me} {s : Sg} {X : Loc → Vl} {w w' : World} (h : EvSt tx m s X w) (hs : w.heap.size ≤ w'.heap.size) (hk : ∀ i b k, s i = some (b, k) → w'.heap[b]? = w.heap[b]?) : EvSt tx m s X w' :=
 ⟨h.heap, ⟨fun id n ty es ex hx => by
   obtain ⟨b, k, cs, g⟩ := h.rel.bl id n ty es ex hx
   exact ⟨b, k, cs, g.mono s.le_refl (hk id b k g.at_) fun i c _ hx => hx⟩, h.rel.inj, fun i b k e => Nat.lt_of_lt_of_le (h.rel.lt i b k e) hs⟩, h.fs⟩
theorem EvSt.lg {tx : Tx} {m : Me} {s : Sg} {X : Loc → Vl} {w : World} (h : EvSt tx m s X w) (lg : List Nat) : EvSt tx ⟨m.h, m.nx, lg⟩ s X w := ⟨h.heap, h.rel, h.fs⟩
section
variable {P : Program} {tx : Tx} {TY : T TI}
theorem CallOk.use {g a v : Nat} {m m' : Me} (h : CallOk P tx TY g a m v m') {fn : Func} {ts rs : List TI} (h1 : P.funcs[g]? = some fn) (hts : cTys TY fn.params.toList = some ts) (hrs : cTys TY fn.resultTypes.toList = some rs) (hlg : m'.lg = []) {s : Sg} {X : Loc → Vl} {w : World} (hst : EvSt tx m s X w) {args : Array Value} (hA : ArgsAre tx s ts 1 a args.toList) :
 Calls P g args w fun e w' => ∃ s' X' u, e = .returned u ∧ EvSt tx m' s' X' w' ∧ VR tx s' (retSh rs) v u ∧ Below w.heap.size w w' ∧ s.le s' ∧ ∀ i b k, s' i = some (b, k) → s i = none → w.heap.size ≤ b := by
 obtain ⟨fn', c, e1, e2, e3⟩ := h.run
 rw [h1] at e1; cases e1
 obtain ⟨_, _, k⟩ := e3 ts rs hts hrs s X w args hst.heap hst.rel hst.fs hA
 refine Calls.mono k fun e w' hh => ?_
 obtain ⟨s', X', u, rfl, hp⟩ := hh
 have hnx := h.nx
 refine ⟨s', X', u, rfl, ⟨hp.heap, hp.rel, fun i hi => ?_⟩, hp.val, ⟨hp.tr.os, hp.tr.tape, hp.tr.output, hp.tr.size, fun b hb => hp.tr.keep b hb fun i c ⟨q, hq, _⟩ => ?_⟩, hp.tr.le, fun i b k hi h0 => ?_⟩
 ·
  cases e : s' i with
  | none => rfl
  | some x =>
   rcases hp.tr.dom i x e with g | ⟨_, _, g⟩
   · rw [hst.fs i (by omega)] at g; cases g
   · omega
 · rw [hlg] at hq; cases hq
 · rcases hp.tr.new i b k hi h0 with g | ⟨j, c', ⟨q, hq, _⟩, _⟩
   · exact g
   · rw [hlg] at hq; cases hq
theorem CallOk.met {g a v : Nat} {m m' : Me} (h : CallOk P tx TY g a m v m') {fn : Func} {ts rs : List TI} (h1 : P.funcs[g]? = some fn) (hts : cTys TY fn.params.toList = some ts) (hrs : cTys TY fn.resultTypes.toList = some rs) (hlg : m'.lg = []) (hst : ∃ s X w, EvSt tx m s X w ∧ ∃ args : Array Value, ArgsAre tx s ts 1 a args.toList) : ∃ s X w, EvSt tx m' s X w ∧ ∃ u, VR tx s (retSh rs) v u := by
 obtain ⟨s, X, w, h2, args, h3⟩ := hst
 obtain ⟨e, w', _, ⟨s', X', u, _, h4, h5, _⟩, _⟩ := h.use h1 hts hrs hlg h2 h3 []
 exact ⟨s', X', w', h4, u, h5⟩
theorem CallOk.pre {g a : Nat} {m : Me} {fn : Func} {ts : List TI} (h1 : P.funcs[g]? = some fn) (hts : cTys TY fn.params.toList = some ts) (hst : ∃ s X w, EvSt tx m s X w ∧ ∃ args : Array Value, ArgsAre tx s ts 1 a args.toList) : CallPre P tx TY g a m := by
 obtain ⟨s, X, w, h2, args, h3⟩ := hst
 exact ⟨fn, ts, s, X, w, args, h1, hts, h2.heap, h2.rel, h2.fs, h3⟩
theorem arg_one {s : Sg} {ti : TI} {c : Nat} {v : Value} (hs : (shOf ti).sz = ti.sz) (h : Cl tx s (shOf ti) c v) : ArgsAre tx s [ti] 1 (Nat.shiftLeft c 72) [v] := by
 have hlt := h.2.2
 rw [hs] at hlt
 refine ⟨v, [], rfl, ?_, rfl, ?_⟩
 ·
  have e : spn (Nat.shiftLeft c 72) (72 * 1) (mk ti.sz) = c := eq_of_cel (spn_lt _ _ _) hlt fun i hi => by
   rw [cel_spn' hi]
   exact cel_eq fun q hq => by
    show (c <<< 72).testBit _ = _
    rw [Nat.testBit_shiftLeft]
    have : 72 * (1 + i) + q ≥ 72 := by omega
    simp only [this, decide_true, Bool.true_and]
    congr 1; omega
  rw [e]; exact h
 · refine Nat.lt_pow_two_of_testBit _ fun q hq => ?_
   show (c <<< 72).testBit q = false
   rw [Nat.testBit_shiftLeft, Nat.testBit_lt_two_pow (Nat.lt_of_lt_of_le hlt (Nat.pow_le_pow_right (by omega) (by omega)))]
   simp
theorem arg_two {s : Sg} {t1 t2 : TI} {c1 c2 : Nat} {v1 v2 : Value} (h1s : t1.sz = 1) (hs1 : (shOf t1).sz = t1.sz) (hs : (shOf t2).sz = t2.sz) (h1 : Cl tx s (shOf t1) c1 v1) (h2 : Cl tx s (shOf t2) c2 v2) : ArgsAre tx s [t1, t2] 1 (Nat.lor (Nat.shiftLeft c1 72) (Nat.shiftLeft c2 144)) [v1, v2] := by
 have hlt1 := h1.2.2
 rw [hs1, h1s] at hlt1
 have hlt := h2.2.2
 rw [hs] at hlt
 have hbit : ∀ q, (Nat.lor (Nat.shiftLeft c1 72) (Nat.shiftLeft c2 144)).testBit q = ((decide (q ≥ 72) && c1.testBit (q - 72)) || (decide (q ≥ 144) && c2.testBit (q - 144))) := fun q => by
  show ((c1 <<< 72) ||| (c2 <<< 144)).testBit q = _
  rw [Nat.testBit_or, Nat.testBit_shiftLeft, Nat.testBit_shiftLeft]
 have hz1 : ∀ q, 72 ≤ q → c1.testBit q = false := fun q hq => Nat.testBit_lt_two_pow (Nat.lt_of_lt_of_le hlt1 (Nat.pow_le_pow_right (by omega) (by omega)))
 refine ⟨v1, [v2], rfl, ?_, v2, [], rfl, ?_, rfl, ?_⟩
 ·
  have e : spn (Nat.lor (Nat.shiftLeft c1 72) (Nat.shiftLeft c2 144)) (72 * 1) (mk t1.sz) = c1 := eq_of_cel (spn_lt _ _ _) (by rw [h1s]; exact hlt1) fun i hi => by
   rw [cel_spn' hi]
   refine cel_eq fun q hq => ?_
   rw [hbit]
   have : 72 * (1 + i) + q ≥ 72 := by omega
   have h3 : ¬ 72 * (1 + i) + q ≥ 144 := by omega
   simp only [this, h3, decide_true, decide_false, Bool.true_and, Bool.false_and, Bool.or_false]
   congr 1; omega
  rw [e]; exact h1
 ·
  have e : spn (Nat.lor (Nat.shiftLeft c1 72) (Nat.shiftLeft c2 144)) (72 * (1 + t1.sz)) (mk t2.sz) = c2 := eq_of_cel (spn_lt _ _ _) hlt fun i hi => by
   rw [cel_spn' hi]
   refine cel_eq fun q hq => ?_
   rw [hbit, h1s]
   have h4 : 72 * (1 + 1 + i) + q ≥ 144 := by omega
   rw [hz1 _ (by omega)]
   simp only [h4, decide_true, Bool.true_and, Bool.and_false, Bool.false_or]
   congr 1; omega
  rw [e]; exact h2
 · refine Nat.lt_pow_two_of_testBit _ fun q hq => ?_
   rw [h1s] at hq
   rw [hbit, hz1 _ (by omega), Nat.testBit_lt_two_pow (x := c2) (i := q - 144) (Nat.lt_of_lt_of_le hlt (Nat.pow_le_pow_right (by omega) (by omega)))]
   simp
theorem part_at {s : Sg} {l : List (Nat × Bool)} {v : Nat} {u : Value} (h : VR tx s (.t l) v u) {i : Nat} {x : Nat × Nat × Bool} (hx : offT l i 0 = some x) : ∃ vs p, u = .tuple vs ∧ vs[i]? = some p ∧ VR tx s (shP x.2.1 x.2.2) (spn v (72 * x.1) (mk x.2.1)) p := by
 obtain ⟨vs, rfl, h1⟩ := h
 obtain ⟨p, h2, h3⟩ := tuple_at l i 0 v vs x (by simpa using h1) hx
 exact ⟨vs.toArray, p, rfl, by simpa using h2, by rw [← shF_eq]; exact h3⟩
end
end Go.Proofs.YtehpobojopmilaaGreat.Ev
namespace Go.Proofs.YtehpobojopmilaaGreat.Ev
set_option linter.unusedVariables false
set_option linter.unusedSimpArgs false
open Go
open Go.RowKit
set_option maxRecDepth 4000
noncomputable def arg0 (tx : Tx) : Nat := Nat.shiftLeft (encZ 0 tx.n) 72
noncomputable def arg2 (k v : Nat) : Nat := Nat.shiftLeft (spn v (72 * 0) (mk k)) 72
noncomputable def arg3 (k v : Nat) : Nat := Nat.lor (Nat.shiftLeft 7 72) (Nat.shiftLeft (spn v (72 * 0) (mk k)) 144)
noncomputable def chain (E : En) (n g1 g2 g3 k1 k2 : Nat) (c1 c2 : Nat → Bool) (fin : Nat → Me → Bool) : Bool :=
 evCall E n g1 (arg0 E.tx) ⟨.e, 0, []⟩ fun v m => iff' (c1 v) (iff' (isNil m.lg) (evCall E n g2 (arg2 k1 v) ⟨m.h, m.nx, []⟩ fun v m => iff' (c2 v) (iff' (isNil m.lg) (evCall E n g3 (arg3 k2 v) ⟨m.h, m.nx, []⟩ fun v m => iff' (isNil m.lg) (fin v m) false) false) false) false) false
structure Sig (E : En) (g : Nat) (fn : Func) (ts rs : List TI) : Prop where
 f : E.P.funcs[g]? = some fn
 t : cTys E.TY fn.params.toList = some ts
 r : cTys E.TY fn.resultTypes.toList = some rs
theorem text_arg {tx : Tx} {s : Sg} {ti : TI} (hk : ti.k = .str) (hsz : ti.sz = 1) (h1 : 8 < tx.n) (h2 : tx.n < 4096) : ArgsAre tx s [ti] 1 (arg0 tx) [.string ⟨⟨txL tx 0 tx.n⟩⟩] := by
 have hs : shOf ti = .c := by unfold shOf; rw [hk]
 refine arg_one (by rw [hs, hsz]; rfl) ?_
 rw [hs]
 refine Cl.of ?_
 have := RC.z (tx := tx) (s := s) 0 tx.n h1 (by omega) (by omega)
 have e : encZ 0 tx.n = 8 * (0 + tx.n * 4096) + 5 := by
  show 8 * (0 + tx.n <<< 12) + 5 = _
  rw [Nat.shiftLeft_eq]
 rw [e]; exact this
theorem part_arg {tx : Tx} {s : Sg} {v k : Nat} {p : Value} {ti : TI} (hs : shOf ti = .g k) (hsz : ti.sz = k) (h : VR tx s (.g k) (spn v (72 * 0) (mk k)) p) : ArgsAre tx s [ti] 1 (arg2 k v) [p] := by
 refine arg_one (by rw [hs, hsz]; rfl) ?_
 rw [hs]
 exact Cl.sh (ag := true) h
theorem part_arg2 {tx : Tx} {s : Sg} {v k : Nat} {p : Value} {t1 ti : TI} (h1 : shOf t1 = .c) (h1s : t1.sz = 1) (hs : shOf ti = .g k) (hsz : ti.sz = k) (h : VR tx s (.g k) (spn v (72 * 0) (mk k)) p) : ArgsAre tx s [t1, ti] 1 (arg3 k v) [.slice none 0 0, p] := by
 refine arg_two h1s (by rw [h1, h1s]; rfl) (by rw [hs, hsz]; rfl) ?_ ?_
 · rw [h1]; exact Cl.of .l0
 · rw [hs]; exact Cl.sh (ag := true) h
theorem chain_t {E : En} (hT : ∀ t ti, E.TY.get t = some ti → tiOf E.P t = some ti) (hname : ∀ (f : FuncId) (fn : Func), E.P.funcs[f]? = some fn → (fn.name == "runtime.NumGoroutine") = false) (hmx : E.P.follows .mixedOrders = true)
 {n g1 g2 g3 k1 k2 : Nat} {c1 c2 : Nat → Bool} {fin : Nat → Me → Bool} (h : chain E n g1 g2 g3 k1 k2 c1 c2 fin = true) {f1 f2 f3 : Func} {t1 t2 t3 t4 : TI} {r1 r2 r3 : List TI} {l1 l2 : List (Nat × Bool)} (s1 : Sig E g1 f1 [t1] r1) (s2 : Sig E g2 f2 [t2] r2) (s3 : Sig E g3 f3 [t3, t4] r3)
 (hk : t1.k = .str) (hsz : t1.sz = 1) (hn1 : 8 < E.tx.n) (hn2 : E.tx.n < 4096) (e1 : retSh r1 = .t l1) (o1 : offT l1 0 0 = some (0, k1, true)) (e2 : shOf t2 = .g k1) (z2 : t2.sz = k1) (e3 : retSh r2 = .t l2) (o2 : offT l2 0 0 = some (0, k2, true)) (e4 : shOf t3 = .c) (z4 : t3.sz = 1) (e5 : shOf t4 = .g k2) (z5 : t4.sz = k2) :
 ∃ v1 m1 v2 m2 v3 m3, c1 v1 = true ∧ c2 v2 = true ∧ fin v3 m3 = true ∧ m1.lg = [] ∧ m2.lg = [] ∧ m3.lg = [] ∧ CallOk E.P E.tx E.TY g1 (arg0 E.tx) ⟨.e, 0, []⟩ v1 m1 ∧ CallOk E.P E.tx E.TY g2 (arg2 k1 v1) ⟨m1.h, m1.nx, []⟩ v2 m2 ∧ CallOk E.P E.tx E.TY g3 (arg3 k2 v2) ⟨m2.h, m2.nx, []⟩ v3 m3 := by
 have hok := evCall_ok E hT hname hmx n
 have p1 : ∃ s X w, EvSt E.tx ⟨.e, 0, []⟩ s X w ∧ ∃ args : Array Value, ArgsAre E.tx s [t1] 1 (arg0 E.tx) args.toList := ⟨_, _, default, EvSt.start _ _, #[_], text_arg hk hsz hn1 hn2⟩
 obtain ⟨v1, m1, h1, k1'⟩ := hok g1 _ _ _ h rfl (CallOk.pre s1.f s1.t p1)
 obtain ⟨a1, h1⟩ := iff_tt h1
 obtain ⟨a2, h1⟩ := iff_tt h1
 have a2 := isNil_t a2
 have p2 : ∃ s X w, EvSt E.tx ⟨m1.h, m1.nx, []⟩ s X w ∧ ∃ args : Array Value, ArgsAre E.tx s [t2] 1 (arg2 k1 v1) args.toList := by
  obtain ⟨s, X, w, q1, u, q2⟩ := k1'.met s1.f s1.t s1.r a2 p1
  rw [e1] at q2
  obtain ⟨vs, p, _, _, q3⟩ := part_at q2 o1
  exact ⟨s, X, w, q1.lg [], #[p], part_arg e2 z2 q3⟩
 obtain ⟨v2, m2, h2, k2'⟩ := hok g2 _ _ _ h1 rfl (CallOk.pre s2.f s2.t p2)
 obtain ⟨a3, h2⟩ := iff_tt h2
 obtain ⟨a4, h2⟩ := iff_tt h2
 have a4 := isNil_t a4
 have p3 : ∃ s X w, EvSt E.tx ⟨m2.h, m2.nx, []⟩ s X w ∧ ∃ args : Array Value, ArgsAre E.tx s [t3, t4] 1 (arg3 k2 v2) args.toList := by
  obtain ⟨s, X, w, q1, u, q2⟩ := k2'.met s2.f s2.t s2.r a4 p2
  rw [e3] at q2
  obtain ⟨vs, p, _, _, q3⟩ := part_at q2 o2
  exact ⟨s, X, w, q1.lg [], #[.slice none 0 0, p], part_arg2 e4 z4 e5 z5 q3⟩
 obtain ⟨v3, m3, h3, k3'⟩ := hok g3 _ _ _ h2 rfl (CallOk.pre s3.f s3.t p3)
 obtain ⟨a5, h3⟩ := iff_tt h3
 have a5 := isNil_t a5
 exact ⟨v1, m1, v2, m2, v3, m3, a1, a3, h3, a2, a4, a5, k1', k2', k3'⟩
end Go.Proofs.YtehpobojopmilaaGreat.Ev
namespace Go.Proofs.YtehpobojopmilaaGreat.Ev
set_option linter.unusedVariables false
set_option linter.unusedSimpArgs false
open Go
open Go.RowKit
set_option maxRecDepth 4000
noncomputable def chainV (E : En) (n g1 g2 g3 g4 k1 : Nat) (c1 c2 c3 : Nat → Bool) (fin : Nat → Me → Bool) : Bool :=
 evCall E n g1 (arg0 E.tx) ⟨.e, 0, []⟩ fun v m => iff' (c1 v) (iff' (isNil m.lg) (evCall E n g2 (arg2 k1 v) ⟨m.h, m.nx, []⟩ fun v m => iff' (c2 v) (iff' (isNil m.lg) (evCall E n g3 (arg2 1 v) ⟨m.h, m.nx, []⟩ fun v m => iff' (c3 v) (iff' (isNil m.lg) (evCall E n g4 (arg2 1 v) ⟨m.h, m.nx, []⟩ fun v m => iff' (isNil m.lg) (fin v m) false) false) false) false) false) false) false
theorem part_argC {tx : Tx} {s : Sg} {v : Nat} {p : Value} {ti : TI} (hs : shOf ti = .c) (hsz : ti.sz = 1) (h : VR tx s .c (spn v (72 * 0) (mk 1)) p) : ArgsAre tx s [ti] 1 (arg2 1 v) [p] := by
 refine arg_one (by rw [hs, hsz]; rfl) ?_
 rw [hs]
 exact Cl.of h
theorem chainV_t {E : En} (hT : ∀ t ti, E.TY.get t = some ti → tiOf E.P t = some ti) (hname : ∀ (f : FuncId) (fn : Func), E.P.funcs[f]? = some fn → (fn.name == "runtime.NumGoroutine") = false) (hmx : E.P.follows .mixedOrders = true)
 {n g1 g2 g3 g4 k1 : Nat} {c1 c2 c3 : Nat → Bool} {fin : Nat → Me → Bool} (h : chainV E n g1 g2 g3 g4 k1 c1 c2 c3 fin = true) {f1 f2 f3 f4 : Func} {t1 t2 t3 t4 : TI} {r1 r2 r3 r4 : List TI} {l1 l2 l3 : List (Nat × Bool)} (s1 : Sig E g1 f1 [t1] r1) (s2 : Sig E g2 f2 [t2] r2) (s3 : Sig E g3 f3 [t3] r3) (s4 : Sig E g4 f4 [t4] r4)
 (hk : t1.k = .str) (hsz : t1.sz = 1) (hn1 : 8 < E.tx.n) (hn2 : E.tx.n < 4096) (e1 : retSh r1 = .t l1) (o1 : offT l1 0 0 = some (0, k1, true)) (e2 : shOf t2 = .g k1) (z2 : t2.sz = k1) (e3 : retSh r2 = .t l2) (o2 : offT l2 0 0 = some (0, 1, false)) (e4 : shOf t3 = .c) (z4 : t3.sz = 1) (e5 : retSh r3 = .t l3) (o3 : offT l3 0 0 = some (0, 1, false)) (e6 : shOf t4 = .c) (z6 : t4.sz = 1) :
 ∃ v1 m1 v2 m2 v3 m3 v4 m4, c1 v1 = true ∧ c2 v2 = true ∧ c3 v3 = true ∧ fin v4 m4 = true ∧ m1.lg = [] ∧ m2.lg = [] ∧ m3.lg = [] ∧ m4.lg = [] ∧ CallOk E.P E.tx E.TY g1 (arg0 E.tx) ⟨.e, 0, []⟩ v1 m1 ∧ CallOk E.P E.tx E.TY g2 (arg2 k1 v1) ⟨m1.h, m1.nx, []⟩ v2 m2 ∧ CallOk E.P E.tx E.TY g3 (arg2 1 v2) ⟨m2.h, m2.nx, []⟩ v3 m3 ∧ CallOk E.P E.tx E.TY g4 (arg2 1 v3) ⟨m3.h, m3.nx, []⟩ v4 m4 := by
 have hok := evCall_ok E hT hname hmx n
 have p1 : ∃ s X w, EvSt E.tx ⟨.e, 0, []⟩ s X w ∧ ∃ args : Array Value, ArgsAre E.tx s [t1] 1 (arg0 E.tx) args.toList := ⟨_, _, default, EvSt.start _ _, #[_], text_arg hk hsz hn1 hn2⟩
 obtain ⟨v1, m1, h1, k1'⟩ := hok g1 _ _ _ h rfl (CallOk.pre s1.f s1.t p1)
 obtain ⟨a1, h1⟩ := iff_tt h1
 obtain ⟨a2, h1⟩ := iff_tt h1
 have a2 := isNil_t a2
 have p2 : ∃ s X w, EvSt E.tx ⟨m1.h, m1.nx, []⟩ s X w ∧ ∃ args : Array Value, ArgsAre E.tx s [t2] 1 (arg2 k1 v1) args.toList := by
  obtain ⟨s, X, w, q1, u, q2⟩ := k1'.met s1.f s1.t s1.r a2 p1
  rw [e1] at q2
  obtain ⟨vs, p, _, _, q3⟩ := part_at q2 o1
  exact ⟨s, X, w, q1.lg [], #[p], part_arg e2 z2 q3⟩
 obtain ⟨v2, m2, h2, k2'⟩ := hok g2 _ _ _ h1 rfl (CallOk.pre s2.f s2.t p2)
 obtain ⟨a3, h2⟩ := iff_tt h2
 obtain ⟨a4, h2⟩ := iff_tt h2
 have a4 := isNil_t a4
 have p3 : ∃ s X w, EvSt E.tx ⟨m2.h, m2.nx, []⟩ s X w ∧ ∃ args : Array Value, ArgsAre E.tx s [t3] 1 (arg2 1 v2) args.toList := by
  obtain ⟨s, X, w, q1, u, q2⟩ := k2'.met s2.f s2.t s2.r a4 p2
  rw [e3] at q2
  obtain ⟨vs, p, _, _, q3⟩ := part_at q2 o2
  exact ⟨s, X, w, q1.lg [], #[p], part_argC e4 z4 q3⟩
 obtain ⟨v3, m3, h3, k3'⟩ := hok g3 _ _ _ h2 rfl (CallOk.pre s3.f s3.t p3)
 obtain ⟨a5, h3⟩ := iff_tt h3
 obtain ⟨a6, h3⟩ := iff_tt h3
 have a6 := isNil_t a6
 have p4 : ∃ s X w, EvSt E.tx ⟨m3.h, m3.nx, []⟩ s X w ∧ ∃ args : Array Value, ArgsAre E.tx s [t4] 1 (arg2 1 v3) args.toList := by
  obtain ⟨s, X, w, q1, u, q2⟩ := k3'.met s3.f s3.t s3.r a6 p3
  rw [e5] at q2
  obtain ⟨vs, p, _, _, q3⟩ := part_at q2 o3
  exact ⟨s, X, w, q1.lg [], #[p], part_argC e6 z6 q3⟩
 obtain ⟨v4, m4, h4, k4'⟩ := hok g4 _ _ _ h3 rfl (CallOk.pre s4.f s4.t p4)
 obtain ⟨a7, h4⟩ := iff_tt h4
 have a7 := isNil_t a7
 exact ⟨v1, m1, v2, m2, v3, m3, v4, m4, a1, a3, a5, h4, a2, a4, a6, a7, k1', k2', k3', k4'⟩
end Go.Proofs.YtehpobojopmilaaGreat.Ev
