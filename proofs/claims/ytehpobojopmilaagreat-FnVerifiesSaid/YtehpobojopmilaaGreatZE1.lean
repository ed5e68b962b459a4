/- The evaluator, texts in one: EvP EvP2 EvP3 EvP4 EvP5 EvP6 EvT EvU EvU2 EvU3 EvU4 EvU5 EvK EvW EvX. Conditions: none. -/
import Derived.Test.YtehpobojopmilaaGreatZE0
import Derived.Deep.MidRow
import Derived.Deep.AppendSrc
namespace Go.Proofs.YtehpobojopmilaaGreat.Ev
set_option linter.unusedVariables false
set_option linter.unusedSimpArgs false
open Go
set_option maxRecDepth 4000
theorem df_t {c : Nat} {k : Bool} (h : df c k = true) : c % 8 ≠ 0 ∧ k = true := by
 unfold df at h
 obtain ⟨h1, h2⟩ := iff_ft h
 exact ⟨fun e => (by rw [land7, e] at h1; cases h1), h2⟩
theorem beq_f {a b : Nat} (h : Nat.beq a b = false) : a ≠ b := fun e => by subst e; rw [show Nat.beq a a = true from Nat.beq_refl a] at h; cases h
theorem pt_ok {c : Nat} {f : Nat → Nat → Bool} (h : pt c f = true) : c % 8 ≠ 0 ∧ ∃ id co, f id co = true ∧ ∀ (tx : Tx) (s : Sg) (v : Value), Cl tx s .c c v → ∃ b k, v = .pointer (some ⟨b, co, none⟩) ∧ s id = some (b, k) ∧ id < 1048575 ∧ co < 281474976710656 ∧ c = 8 * (id + 1 + co * 1048576) + 6 := by
 unfold pt at h
 obtain ⟨h1, h⟩ := tag_t h
 obtain ⟨h2, h⟩ := iff_ft h
 have h2 := beq_f h2
 refine ⟨by omega, _, _, h, fun tx s v cv => ?_⟩
 rcases (cv.rc (by omega)).t6 h1 with ⟨_, e⟩ | ⟨id, co, b, k, rfl, e, h3, h4, h5⟩
 · exact absurd e h2
 have e1 : Nat.pred (Nat.land (Nat.shiftRight c 3) 1048575) = id := by
  rw [show (1048575 : Nat) = 2 ^ 20 - 1 from rfl, land_mod, shr, npred]; omega
 have e2 : Nat.shiftRight c 23 = co := by rw [shr]; omega
 rw [e1, e2]
 exact ⟨b, k, rfl, h3, h4, h5, e⟩
theorem sl_ok {c : Nat} {f : Nat → Nat → Nat → Nat → Bool} (h : sl c f = true) : c % 8 ≠ 0 ∧ ∃ id eo n es, f id eo n es = true ∧ ∀ (tx : Tx) (s : Sg) (v : Value), Cl tx s .c c v → ∃ b k, v = .slice (some ⟨b, eo * es, none⟩) n (k - eo) ∧ s id = some (b, k) ∧ id < 1048575 ∧ eo < 4096 ∧ eo + n < 4096 ∧ es < 4096 ∧ eo + n ≤ k ∧ k ≤ maxLen := by
 unfold sl at h
 obtain ⟨h1, h⟩ := tag_t h
 obtain ⟨h2, h⟩ := iff_ft h
 have h2 := beq_f h2
 obtain ⟨h2', h⟩ := iff_ft h
 have h2' := beq_f h2'
 refine ⟨by omega, _, _, _, _, h, fun tx s v cv => ?_⟩
 rcases (cv.rc (by omega)).t7 h1 with ⟨_, e⟩ | ⟨id, eo, n, es, b, k, rfl, e, h3, h4, h5, h6, h7, h8, h9⟩ | ⟨_, _, _, e, _⟩
 · exact absurd e h2
 rotate_left
 · exact absurd e h2'
 have e1 : Nat.pred (Nat.land (Nat.shiftRight c 3) 1048575) = id := by
  rw [show (1048575 : Nat) = 2 ^ 20 - 1 from rfl, land_mod, shr, npred]; omega
 have e2 : Nat.land (Nat.shiftRight c 23) 4095 = eo := by
  rw [show (4095 : Nat) = 2 ^ 12 - 1 from rfl, land_mod, shr]; omega
 have e3 : Nat.land (Nat.shiftRight c 35) 4095 = n := by
  rw [show (4095 : Nat) = 2 ^ 12 - 1 from rfl, land_mod, shr]; omega
 have e4 : Nat.shiftRight c 47 = es := by rw [shr]; omega
 rw [e1, e2, e3, e4]
 exact ⟨b, k, rfl, h3, h4, h5, h6, h7, h8, h9⟩
theorem idx_ok {c : Nat} {f : Nat → Bool} (h : idx c f = true) : ∃ n : Nat, f n = true ∧ c % 8 ≠ 0 ∧ ∀ (tx : Tx) (s : Sg) (v : Value), Cl tx s .c c v → v = .int .i64 n ∧ n < 1152921504606846976 := by
 unfold idx at h
 obtain ⟨h1, h⟩ := isI_t h
 obtain ⟨h2, h⟩ := iff_tt h
 have h2 := ble_t h2
 rw [B8_eq] at h2
 refine ⟨_, h, by omega, fun tx s v cv => rc_nat_inv cv ?_⟩
 rw [B8_eq, Nat.sub_eq, ndiv]; omega
theorem eNot_ok {x : Od} {fr : Nat} {κ : KN} (h : eNot x fr κ = true) : ∃ c, κ c = true ∧ ∀ (tx : Tx) (s : Sg) (v : Value), Cl tx s .c (x fr) v → ∃ r, RC tx s c r ∧ ∀ (P : Program) (w : World), (Op.unary .not v).run P w = .ok r w := by
 unfold eNot at h
 obtain ⟨h1, h⟩ := tag_t h
 refine ⟨_, h, fun tx s v cv => ?_⟩
 obtain ⟨b, rfl, e⟩ := (cv.rc (by omega)).t2 h1
 rw [e]
 refine ⟨.bool !b, ?_, fun P w => by simp [Op.unary, go_sem]⟩
 have : Nat.sub 12 (bo b) = bo !b := by cases b <;> rfl
 rw [this]; exact .b _
theorem ePick_ok {c a b : Od} {fr : Nat} {κ : KN} (h : ePick c a b fr κ = true) : ∃ r, κ r = true ∧ ∀ (tx : Tx) (s : Sg) (hs : Sh) (vc va vb : Value), Cl tx s .c (c fr) vc → Cl tx s hs (a fr) va → Cl tx s hs (b fr) vb → ∃ v, Cl tx s hs r v ∧ ∀ (P : Program) (w : World), (do pure (.value (if ← asBool vc then va else vb)) : Sem Next).run P w = .ok (.value v) w := by
 unfold ePick at h
 obtain ⟨h1, h⟩ := tag_t h
 cases e : Nat.beq (c fr) 10 with
 | true =>
  rw [iff_true e] at h
  refine ⟨_, h, fun tx s hs vc va vb cc ca cb => ⟨va, ca, fun P w => ?_⟩⟩
  obtain ⟨x, rfl, e1⟩ := (cc.rc (by omega)).t2 h1
  have : x = true := by cases x with
   | true => rfl
   | false => rw [e1] at e; cases e
  subst this
  simp [asBool, go_sem]
 | false =>
  rw [iff_false e] at h
  refine ⟨_, h, fun tx s hs vc va vb cc ca cb => ⟨vb, cb, fun P w => ?_⟩⟩
  obtain ⟨x, rfl, e1⟩ := (cc.rc (by omega)).t2 h1
  have : x = false := by cases x with
   | false => rfl
   | true => rw [e1] at e; cases e
  subst this
  simp [asBool, go_sem]
theorem add_mid (b o j : Nat) : (⟨b, o, none⟩ : Addr).add j = ⟨b, o + j, none⟩ := by unfold Addr.add; split <;> simp_all
theorem eFA_ok {d off : Nat} (hd : d = Nat.shiftLeft off 23) {x : Od} {fr : Nat} {κ : KN} (h : eFA d x fr κ = true) : ∃ r, κ r = true ∧ ∀ (tx : Tx) (s : Sg) (v : Value), Cl tx s .c (x fr) v → ∃ b co, v = .pointer (some ⟨b, co, none⟩) ∧ RC tx s r (.pointer (some ⟨b, co + off, none⟩)) := by
 unfold eFA at h
 obtain ⟨h0, id, co, h, hp⟩ := pt_ok h
 obtain ⟨h1, h⟩ := iff_tt h
 have h1 := ble_t h1
 refine ⟨_, h, fun tx s v cv => ?_⟩
 obtain ⟨b, k, rfl, h2, h3, h4, h5⟩ := hp tx s v cv
 refine ⟨b, co, rfl, ?_⟩
 rw [hd, shl] at h1 ⊢
 rw [h5] at h1 ⊢
 have : Nat.add (8 * (id + 1 + co * 1048576) + 6) (off * 2 ^ 23) = 8 * (id + 1 + (co + off) * 1048576) + 6 := by
  show (8 * (id + 1 + co * 1048576) + 6) + (off * 2 ^ 23) = _
  omega
 rw [this] at h1 ⊢
 exact .p _ _ _ _ h2 h3 (Nat.lt_of_not_le fun hh => by omega)
end Go.Proofs.YtehpobojopmilaaGreat.Ev
namespace Go.Proofs.YtehpobojopmilaaGreat.Ev
set_option linter.unusedVariables false
set_option linter.unusedSimpArgs false
open Go
set_option maxRecDepth 4000
theorem eIA_ok {es : Nat} {x ix : Od} {fr : Nat} {κ : KN} (h : eIA es x ix fr κ = true) : ∃ r, κ r = true ∧ ∀ (tx : Tx) (s : Sg) (vx vi : Value), Cl tx s .c (x fr) vx → Cl tx s .c (ix fr) vi → ∃ v, RC tx s r v ∧ ∀ (P : Program) (t e : TypeId) (i : TypeInfo) (w : World), P.underlying t = some (.slice e) → P.info? e = some i → i.size = es → (Instr.indexAt t vx vi).run P w = .ok v w := by
 unfold eIA at h
 obtain ⟨h0, id, eo, n, e, h, hs⟩ := sl_ok h
 obtain ⟨h1, h⟩ := iff_tt h
 have h1 := beq_t h1
 subst h1
 obtain ⟨j, h, hj0, hj⟩ := idx_ok (c := ix fr) (f := fun j => iff' (Nat.ble (Nat.succ j) n) (κ (encP id (Nat.mul (Nat.add eo j) e))) false) h
 obtain ⟨h2, h⟩ := iff_tt h
 have h2 := ble_t h2
 refine ⟨_, h, fun tx s vx vi cx ci => ?_⟩
 obtain ⟨b, k, rfl, g1, g2, g3, g4, g5, g6, g7⟩ := hs tx s vx cx
 obtain ⟨rfl, g8⟩ := hj tx s vi ci
 refine ⟨.pointer (some ⟨b, (eo + j) * e, none⟩), ?_, fun P t e' i w ht hi hsz => ?_⟩
 ·
  have : encP id (Nat.mul (Nat.add eo j) e) = 8 * (id + 1 + ((eo + j) * e) * 1048576) + 6 := by
   show 8 * ((id + 1) + ((eo + j) * e) <<< 20) + 6 = _
   rw [Nat.shiftLeft_eq]
  rw [this]
  refine .p _ _ _ _ g1 g2 ?_
  have : (eo + j) * e ≤ 8192 * 4096 := Nat.mul_le_mul (by omega) (by omega)
  exact Nat.lt_of_le_of_lt this (by decide)
 · have hjn : j < n := h2
   have h3 : (0 : Int) ≤ (j : Int) ∧ (j : Int) < (n : Int) := by omega
   simp [Instr.indexAt, asIntOf, run_underlying ht, sizeOf, typeInfo, hi, hsz, hjn, add_mid, Nat.add_mul, go_sem]
theorem offZ_eq (off len : Nat) (h1 : off < 4096) : offZ (8 * (off + len * 4096) + 5) = off := by
 unfold offZ
 rw [show (4095 : Nat) = 2 ^ 12 - 1 from rfl, land_mod, shr]; omega
theorem lenZ_eq (off len : Nat) (h1 : off < 4096) : lenZ (8 * (off + len * 4096) + 5) = len := by
 unfold lenZ
 rw [shr]; omega
theorem txL_len (tx : Tx) (off len : Nat) : (txL tx off len).length = len := by simp [txL]
theorem txL_get (tx : Tx) (off len i : Nat) (h : i < len) : (txL tx off len)[i]? = some (UInt8.ofNat ((tx.c >>> (8 * (off + i))) % 256)) := by
 simp [txL, h]
theorem numU_at : ∀ (l : List UInt8) (i : Nat) (b : UInt8), l[i]? = some b → numU l / 2 ^ (8 * i) % 256 = b.toNat
 | [], i, b, h => by simp at h
 | x :: r, 0, b, h => by
  simp at h
  subst h
  have := x.toNat_lt
  simp only [numU, Nat.mul_zero, Nat.pow_zero, Nat.div_one]
  omega
 | x :: r, i + 1, b, h => by
  have ih := numU_at r i b (by simpa using h)
  have := x.toNat_lt
  have e : 2 ^ (8 * (i + 1)) = 256 * 2 ^ (8 * i) := by rw [Nat.mul_add, Nat.pow_add]; omega
  simp only [numU]
  rw [e, ← Nat.div_div_eq_div_mul, show (x.toNat + 256 * numU r) / 256 = numU r by omega]
  exact ih
theorem get_bytes (l : List UInt8) (i : Nat) : (⟨⟨l⟩⟩ : ByteArray)[i]? = l[i]? := by
 by_cases h : i < l.length
 · have h2 : i < (⟨⟨l⟩⟩ : ByteArray).size := h
   rw [getElem?_pos (⟨⟨l⟩⟩ : ByteArray) i h2, List.getElem?_eq_getElem h]
   rfl
 · have h2 : ¬ i < (⟨⟨l⟩⟩ : ByteArray).size := h
   rw [getElem?_neg (⟨⟨l⟩⟩ : ByteArray) i h2, List.getElem?_eq_none (by omega)]
theorem eIx_ok {tx : Tx} {x ix : Od} {fr : Nat} {κ : KN} (h : eIx tx x ix fr κ = true) : ∃ r, κ r = true ∧ ∀ (s : Sg) (vx vi : Value), Cl tx s .c (x fr) vx → Cl tx s .c (ix fr) vi → ∃ v, RC tx s r v ∧ ∀ (P : Program) (t : TypeId) (w : World), P.underlying t = some .string → (Instr.index t vx vi).run P w = .ok v w := by
 unfold eIx at h
 obtain ⟨j, h, hj0, hj⟩ := idx_ok h
 have fin : ∀ (s : Sg) (l : List UInt8) (b : UInt8) (r : Nat), l[j]? = some b → r = b.toNat → ∃ v, RC tx s (Nat.add (Nat.mul 8 r) 3) v ∧ ∀ (P : Program) (t : TypeId) (w : World), P.underlying t = some .string → (Instr.index t (.string ⟨⟨l⟩⟩) (.int .i64 j)).run P w = .ok v w := fun s l b r hb hr => by
  subst hr
  refine ⟨.int .u8 b.toNat, .u _ b.toNat_lt, fun P t w ht => ?_⟩
  have h1 : (⟨⟨l⟩⟩ : ByteArray)[j]? = some b := by rw [get_bytes, hb]
  simp [Instr.index, asIntOf, run_underlying ht, h1, go_sem]
 cases e : Nat.beq (Nat.land (x fr) 7) 5 with
 | true =>
  rw [iff_true e] at h
  have e := beq_t e
  rw [land7] at e
  obtain ⟨h1, h⟩ := iff_tt h
  have h1 := ble_t h1
  refine ⟨_, h, fun s vx vi cx ci => ?_⟩
  obtain ⟨off, len, rfl, e1, e2, e3, e4⟩ := (cx.rc (by omega)).t5 e
  obtain ⟨rfl, g8⟩ := hj tx s vi ci
  rw [e1, offZ_eq _ _ e3]
  rw [e1, lenZ_eq _ _ e3] at h1
  refine fin s _ _ _ (txL_get tx off len j h1) ?_
  rw [show (255 : Nat) = 2 ^ 8 - 1 from rfl, land_mod]
  show (tx.c >>> (8 * (off + j))) % 256 = _
  rw [UInt8.toNat_ofNat']
  omega
 | false =>
  rw [iff_false e] at h
  obtain ⟨e, h⟩ := tag_t h
  obtain ⟨h1, h⟩ := iff_tt h
  have h1 := ble_t h1
  refine ⟨_, h, fun s vx vi cx ci => ?_⟩
  obtain ⟨l, rfl, e1, e3⟩ := (cx.rc (by omega)).t4 e
  obtain ⟨rfl, g8⟩ := hj tx s vi ci
  rw [e1, numS_eq _ e3]
  rw [e1, lenS_eq _ e3] at h1
  have hl : l[j]? = some l[j] := List.getElem?_eq_getElem h1
  refine fin s _ _ _ hl ?_
  rw [show (255 : Nat) = 2 ^ 8 - 1 from rfl, land_mod, shr]
  exact numU_at l j _ hl
theorem eLenS_ok {tx : Tx} {x : Od} {fr : Nat} {κ : KN} (h : eLenS x fr κ = true) : ∃ r, κ r = true ∧ ∀ (s : Sg) (vx : Value), Cl tx s .c (x fr) vx → ∃ v, RC tx s r v ∧ ∀ (P : Program) (t ty : TypeId) (ts : Array TypeId) (w : World), ts[0]? = some t → P.underlying t = some .string → (Builtin.len_ ts ty #[vx]).run P w = .ok v w := by
 unfold eLenS at h
 have fin : ∀ (s : Sg) (l : List UInt8) (n : Nat), n = l.length → n < 4096 → ∃ v, RC tx s (encN n) v ∧ ∀ (P : Program) (t ty : TypeId) (ts : Array TypeId) (w : World), ts[0]? = some t → P.underlying t = some .string → (Builtin.len_ ts ty #[.string ⟨⟨l⟩⟩]).run P w = .ok v w := fun s l n hn hb => by
  refine ⟨.int .i64 n, rc_nat (by rw [encN_eq]; omega), fun P t ty ts w h0 ht => ?_⟩
  have : (⟨⟨l⟩⟩ : ByteArray).size = n := hn.symm
  simp [Builtin.len_, h0, run_underlying ht, goInt, this, go_sem]
 cases e : Nat.beq (Nat.land (x fr) 7) 5 with
 | true =>
  rw [iff_true e] at h
  have e := beq_t e
  rw [land7] at e
  refine ⟨_, h, fun s vx cx => ?_⟩
  obtain ⟨off, len, rfl, e1, e2, e3, e4⟩ := (cx.rc (by omega)).t5 e
  rw [e1, lenZ_eq _ _ e3]
  exact fin s _ _ (txL_len _ _ _).symm (by omega)
 | false =>
  rw [iff_false e] at h
  obtain ⟨e, h⟩ := tag_t h
  refine ⟨_, h, fun s vx cx => ?_⟩
  obtain ⟨l, rfl, e1, e3⟩ := (cx.rc (by omega)).t4 e
  rw [e1, lenS_eq _ e3]
  exact fin s _ _ rfl (by omega)
theorem eLenL_ok {tx : Tx} {x : Od} {fr : Nat} {κ : KN} (h : eLenL x fr κ = true) : ∃ r, κ r = true ∧ ∀ (s : Sg) (vx : Value), Cl tx s .c (x fr) vx → ∃ v, RC tx s r v ∧ ∀ (P : Program) (t ty e : TypeId) (ts : Array TypeId) (w : World), ts[0]? = some t → P.underlying t = some (.slice e) → (Builtin.len_ ts ty #[vx]).run P w = .ok v w := by
 unfold eLenL at h
 obtain ⟨e, h⟩ := tag_t h
 refine ⟨_, h, fun s vx cx => ?_⟩
 rcases (cx.rc (by omega)).t7 e with ⟨rfl, e1⟩ | ⟨id, eo, n, es, b, k, rfl, e1, h3, h4, h5, h6, h7, h8, h9⟩ | ⟨a, q, rfl, e1, h3⟩
 · rw [e1]
   refine ⟨.int .i64 0, rc_nat (n := 0) (by decide), fun P t ty e ts w h0 ht => ?_⟩
   simp [Builtin.len_, h0, run_underlying ht, goInt, go_sem]
 · have : Nat.land (Nat.shiftRight (x fr) 35) 4095 = n := by
    rw [show (4095 : Nat) = 2 ^ 12 - 1 from rfl, land_mod, shr]; omega
   rw [this]
   refine ⟨.int .i64 n, rc_nat (by rw [encN_eq]; omega), fun P t ty e ts w h0 ht => ?_⟩
   simp [Builtin.len_, h0, run_underlying ht, goInt, go_sem]
 · rw [e1]
   refine ⟨.int .i64 0, rc_nat (n := 0) (by decide), fun P t ty e ts w h0 ht => ?_⟩
   simp [Builtin.len_, h0, run_underlying ht, goInt, go_sem]
theorem eConvI_ok {tx : Tx} {x : Od} {fr : Nat} {κ : KN} (h : eConvI x fr κ = true) : ∃ r, κ r = true ∧ ∀ (s : Sg) (vx : Value), Cl tx s .c (x fr) vx → ∃ v, RC tx s r v ∧ ∀ (P : Program) (t d : TypeId) (w : World), P.underlying t = some (.int .u8) → P.underlying d = some (.int .i64) → (convert t d vx).run P w = .ok v w := by
 unfold eConvI at h
 obtain ⟨e, h⟩ := tag_t h
 refine ⟨_, h, fun s vx cx => ?_⟩
 obtain ⟨n, rfl, e1, e3⟩ := (cx.rc (by omega)).t3 e
 have : Nat.shiftRight (x fr) 3 = n := by rw [shr]; omega
 rw [this]
 refine ⟨.int .i64 n, rc_nat (by rw [encN_eq]; omega), fun P t d w ht hd => ?_⟩
 have hw : IntKind.i64.wrap (n : Int) = n := wrap_small _ (by omega) (by omega)
 simp [convert, run_underlying ht, run_underlying hd, Conv.intToInt, hw, go_sem]
theorem wrap_u8 (n : Nat) : IntKind.u8.wrap (n : Int) = ((n % 256 : Nat) : Int) := by
 rw [IntKind.wrap_u8]; omega
theorem eConvU_ok {tx : Tx} {x : Od} {fr : Nat} {κ : KN} (h : eConvU x fr κ = true) : ∃ r, κ r = true ∧ ∀ (s : Sg) (vx : Value), Cl tx s .c (x fr) vx → ∃ v, RC tx s r v ∧ ∀ (P : Program) (t d : TypeId) (w : World), P.underlying t = some (.int .i64) → P.underlying d = some (.int .u8) → (convert t d vx).run P w = .ok v w := by
 unfold eConvU at h
 obtain ⟨j, h, hj0, hj⟩ := idx_ok h
 refine ⟨_, h, fun s vx cx => ?_⟩
 obtain ⟨rfl, g8⟩ := hj tx s vx cx
 refine ⟨.int .u8 ((j % 256 : Nat) : Int), .u _ (Nat.mod_lt _ (by omega)), fun P t d w ht hd => ?_⟩
 simp [convert, run_underlying ht, run_underlying hd, Conv.intToInt, wrap_u8, go_sem]
end Go.Proofs.YtehpobojopmilaaGreat.Ev
namespace Go.Proofs.YtehpobojopmilaaGreat.Ev
set_option linter.unusedVariables false
set_option linter.unusedSimpArgs false
open Go
set_option maxRecDepth 4000
def OCl (tx : Tx) (s : Sg) (fr : Nat) (o : Option Od) (v : Option Value) : Prop := match o, v with
 | none, none => True
 | some o, some v => Cl tx s .c (o fr) v
 | _, _ => False
def BoundIs (v : Option Value) (d a : Nat) : Prop := match v with
 | none => a = d
 | some v => v = .int .i64 a
theorem bound_ok {fr : Nat} {o : Option Od} {d : Nat} {f : Nat → Bool} (h : bound fr o d f = true) : ∃ a, f a = true ∧ ∀ (tx : Tx) (s : Sg) (v : Option Value), OCl tx s fr o v → BoundIs v d a := by
 cases o with
 | none =>
  refine ⟨d, h, fun tx s v hv => ?_⟩
  cases v with
  | none => rfl
  | some v => exact hv.elim
 | some o =>
  obtain ⟨a, h, _, ha⟩ := idx_ok (f := f) h
  refine ⟨a, h, fun tx s v hv => ?_⟩
  cases v with
  | none => exact hv.elim
  | some v => exact (ha tx s v hv).1
theorem run_bounds {P : Program} {w : World} {lo hi : Option Value} {len cap a b : Nat} {sl : Bool} (hb : BoundIs hi len b) (ha : BoundIs lo 0 a) (h1 : a ≤ b) (h2 : b ≤ cap) : (Instr.sliceBounds sl len cap lo hi none).run P w = .ok (a, b, cap) w := by
 have hk : ∀ (x y : Nat) (c : BoundsCode), x ≤ y → (Instr.sliceBound (.int .i64 x) y c).run P w = .ok x w := fun x y c h => by
  have : (0 : Int) ≤ (x : Int) ∧ (x : Int) ≤ (y : Int) := by omega
  simp [Instr.sliceBound, asIntOf, h, go_sem]
 cases hi with
 | none =>
  obtain rfl : b = len := hb
  cases lo with
  | none =>
   obtain rfl : a = 0 := ha
   simp [Instr.sliceBounds, go_sem]
  | some lo =>
   obtain rfl : lo = .int .i64 a := ha
   simp [Instr.sliceBounds, go_sem, hk a b _ h1]
 | some hi =>
  obtain rfl : hi = .int .i64 b := hb
  cases lo with
  | none =>
   obtain rfl : a = 0 := ha
   simp [Instr.sliceBounds, go_sem, hk b cap _ h2]
  | some lo =>
   obtain rfl : lo = .int .i64 a := ha
   simp [Instr.sliceBounds, go_sem, hk a b _ h1, hk b cap _ h2, Nat.not_lt.2 h1]
theorem mk8_eq (k : Nat) : mk8 k = 2 ^ (8 * k) - 1 := by
 show 1 <<< (8 * k) - 1 = _
 rw [Nat.one_shiftLeft]
theorem numU_drop : ∀ (l : List UInt8) (a : Nat), numU (l.drop a) = numU l / 2 ^ (8 * a)
 | l, 0 => by simp
 | [], a + 1 => by simp [numU]
 | x :: r, a + 1 => by
  have := x.toNat_lt
  have e : 2 ^ (8 * (a + 1)) = 256 * 2 ^ (8 * a) := by rw [Nat.mul_add, Nat.pow_add]; omega
  simp only [List.drop_succ_cons, numU_drop r a, numU]
  rw [e, ← Nat.div_div_eq_div_mul, show (x.toNat + 256 * numU r) / 256 = numU r by omega]
theorem numU_take : ∀ (l : List UInt8) (k : Nat), numU (l.take k) = numU l % 2 ^ (8 * k)
 | l, 0 => by simp [numU, Nat.mod_one]
 | [], k + 1 => by simp [numU]
 | x :: r, k + 1 => by
  have := x.toNat_lt
  have e : 2 ^ (8 * (k + 1)) = 256 * 2 ^ (8 * k) := by rw [Nat.mul_add, Nat.pow_add]; omega
  simp only [List.take_succ_cons, numU_take r k, numU]
  rw [e, Nat.mod_mul, show (x.toNat + 256 * numU r) / 256 = numU r by omega, show (x.toNat + 256 * numU r) % 256 = x.toNat by omega]
theorem numU_txL (tx : Tx) : ∀ (k o : Nat), numU (txL tx o k) = (tx.c >>> (8 * o)) % 2 ^ (8 * k)
 | 0, o => by simp [txL, numU, Nat.mod_one]
 | k + 1, o => by
  have hc : txL tx o (k + 1) = UInt8.ofNat ((tx.c >>> (8 * o)) % 256) :: txL tx (o + 1) k := by
   simp only [txL, List.range_succ_eq_map, List.map_cons, List.map_map, Nat.add_zero]
   congr 1
   apply List.map_congr_left
   intro i _
   simp only [Function.comp, Nat.succ_eq_add_one]
   rw [show o + (i + 1) = o + 1 + i by omega]
  have e : 2 ^ (8 * (k + 1)) = 256 * 2 ^ (8 * k) := by rw [Nat.mul_add, Nat.pow_add]; omega
  rw [hc, numU, numU_txL tx k (o + 1), e, Nat.mod_mul, UInt8.toNat_ofNat']
  have : tx.c >>> (8 * (o + 1)) = tx.c >>> (8 * o) / 256 := by
   rw [show 8 * (o + 1) = 8 * o + 8 by omega, Nat.shiftRight_add, Nat.shiftRight_eq_div_pow _ 8]
  rw [this]
  omega
theorem txL_cut (tx : Tx) (off len a b : Nat) (h1 : a ≤ b) (h2 : b ≤ len) : ((txL tx off len).drop a).take (b - a) = txL tx (off + a) (b - a) := by
 apply List.ext_getElem?
 intro i
 by_cases hi : i < b - a
 · rw [List.getElem?_take_of_lt hi, List.getElem?_drop, txL_get _ _ _ _ (by omega), txL_get _ _ _ _ hi, Nat.add_assoc]
 · rw [List.getElem?_eq_none (by simp [txL]; omega), List.getElem?_eq_none (by simp [txL]; omega)]
theorem extract_bytes (l : List UInt8) (a b : Nat) : (⟨⟨l⟩⟩ : ByteArray).extract a b = ⟨⟨(l.drop a).take (b - a)⟩⟩ := by
 have h : ((⟨⟨l⟩⟩ : ByteArray).extract a b).data = (⟨⟨(l.drop a).take (b - a)⟩⟩ : ByteArray).data := by
  rw [ByteArray.data_extract]
  apply Array.ext'
  simp [Array.toList_extract, List.extract]
 cases hx : (⟨⟨l⟩⟩ : ByteArray).extract a b with
 | mk d => rw [hx] at h; exact congrArg ByteArray.mk h
theorem run_sliceS {P : Program} {w : World} {t : TypeId} {l : List UInt8} {lo hi : Option Value} {a b : Nat} (ht : P.underlying t = some .string) (hb : BoundIs hi l.length b) (ha : BoundIs lo 0 a) (h1 : a ≤ b) (h2 : b ≤ l.length) :
 (Instr.sliceAt t (.string ⟨⟨l⟩⟩) lo hi none).run P w = .ok (.string ⟨⟨(l.drop a).take (b - a)⟩⟩) w := by
 have hr := run_bounds (P := P) (w := w) (sl := false) hb ha h1 h2
 have hsz : (⟨⟨l⟩⟩ : ByteArray).size = l.length := rfl
 have e : (Instr.slice t (.string ⟨⟨l⟩⟩) lo hi none).run P w = .ok (.string ⟨⟨(l.drop a).take (b - a)⟩⟩) w := by
  unfold Instr.slice
  rw [Sem.run_bind, run_underlying ht w]
  simp only [Result.andThen_ok, Option.isSome_none, Bool.false_eq_true, if_false, Sem.run_bind, Sem.run_pure, hsz, hr, extract_bytes]
 unfold Instr.sliceAt
 rw [Sem.run_bind, run_underlying ht w]
 simp only [Result.andThen_ok]
 exact e
theorem eSlS_ok {tx : Tx} {x : Od} {lo hi : Option Od} {fr : Nat} {κ : KN} (h : eSlS tx x lo hi fr κ = true) : ∃ r, κ r = true ∧ ∀ (s : Sg) (vx : Value) (vl vh : Option Value), Cl tx s .c (x fr) vx → OCl tx s fr lo vl → OCl tx s fr hi vh → ∃ v, RC tx s r v ∧ ∀ (P : Program) (t : TypeId) (w : World), P.underlying t = some .string → (Instr.sliceAt t vx vl vh none).run P w = .ok v w := by
 unfold eSlS at h
 obtain ⟨a, h, hla⟩ := bound_ok h
 cases e : Nat.beq (Nat.land (x fr) 7) 5 with
 | true =>
  rw [iff_true e] at h
  have e := beq_t e
  rw [land7] at e
  obtain ⟨b, h, hlb⟩ := bound_ok h
  unfold subZ at h
  obtain ⟨h1, h⟩ := iff_tt h
  obtain ⟨h2, h⟩ := iff_tt h
  have h1 := ble_t h1
  have h2 := ble_t h2
  have key : ∀ (s : Sg) (vx : Value), Cl tx s .c (x fr) vx → ∃ off len, vx = .string ⟨⟨txL tx off len⟩⟩ ∧ offZ (x fr) = off ∧ lenZ (x fr) = len ∧ off < 4096 ∧ off + len < 4096 := fun s vx cx => by
   obtain ⟨off, len, rfl, e1, e2, e3, e4⟩ := (cx.rc (by omega)).t5 e
   exact ⟨off, len, rfl, by rw [e1, offZ_eq _ _ e3], by rw [e1, lenZ_eq _ _ e3], e3, e4⟩
  cases e8 : Nat.ble (Nat.sub b a) 8 with
  | true =>
   rw [iff_true e8] at h
   have e8 := ble_t e8
   refine ⟨_, h, fun s vx vl vh cx cl ch => ?_⟩
   obtain ⟨off, len, rfl, e1, e2, e3, e4⟩ := key s vx cx
   have hb := hlb tx s vh ch
   rw [e2] at hb h2
   refine ⟨_, ?_, fun P t w ht => run_sliceS ht (by rw [txL_len]; exact hb) (hla tx s vl cl) h1 (by rw [txL_len]; exact h2)⟩
   rw [txL_cut _ _ _ _ _ h1 h2, e1]
   refine rc_str (txL_len _ _ _).symm ?_ (by rw [txL_len]; exact e8)
   rw [numU_txL, mk8_eq, land_mod]
   rfl
  | false =>
   rw [iff_false e8] at h
   have e8 : 8 < b - a := Nat.lt_of_not_le fun hh => by rw [Nat.ble_eq_true_of_le (show Nat.sub b a ≤ 8 from hh)] at e8; cases e8
   refine ⟨_, h, fun s vx vl vh cx cl ch => ?_⟩
   obtain ⟨off, len, rfl, e1, e2, e3, e4⟩ := key s vx cx
   have hb := hlb tx s vh ch
   rw [e2] at hb h2
   refine ⟨_, ?_, fun P t w ht => run_sliceS ht (by rw [txL_len]; exact hb) (hla tx s vl cl) h1 (by rw [txL_len]; exact h2)⟩
   rw [txL_cut _ _ _ _ _ h1 h2, e1]
   have : encZ (Nat.add off a) (Nat.sub b a) = 8 * ((off + a) + (b - a) * 4096) + 5 := by
    show 8 * ((off + a) + (b - a) <<< 12) + 5 = _
    rw [Nat.shiftLeft_eq]
   rw [this]
   exact .z _ _ e8 (by omega) (by omega)
 | false =>
  rw [iff_false e] at h
  obtain ⟨e, h⟩ := tag_t h
  obtain ⟨b, h, hlb⟩ := bound_ok h
  unfold subS at h
  obtain ⟨h1, h⟩ := iff_tt h
  obtain ⟨h2, h⟩ := iff_tt h
  have h1 := ble_t h1
  have h2 := ble_t h2
  refine ⟨_, h, fun s vx vl vh cx cl ch => ?_⟩
  obtain ⟨l, rfl, e1, e3⟩ := (cx.rc (by omega)).t4 e
  have e4 : lenS (x fr) = l.length := by rw [e1, lenS_eq _ e3]
  have hb := hlb tx s vh ch
  rw [e4] at hb h2
  refine ⟨_, ?_, fun P t w ht => run_sliceS ht hb (hla tx s vl cl) h1 h2⟩
  have hl : ((l.drop a).take (b - a)).length = b - a := by simp; omega
  rw [e1, numS_eq _ e3]
  refine rc_str hl.symm ?_ (by rw [hl]; omega)
  rw [numU_take, numU_drop, mk8_eq, land_mod, shr]
  rfl
end Go.Proofs.YtehpobojopmilaaGreat.Ev
namespace Go.Proofs.YtehpobojopmilaaGreat.Ev
set_option linter.unusedVariables false
set_option linter.unusedSimpArgs false
open Go
set_option maxRecDepth 4000
theorem encL_eq (id eo n es : Nat) : encL id eo n es = 8 * (id + 1 + (eo + (n + es * 4096) * 4096) * 1048576) + 7 := by
 show 8 * ((id + 1) + ((eo + ((n + es <<< 12) <<< 12)) <<< 20)) + 7 = _
 simp only [Nat.shiftLeft_eq]
theorem run_sliceL {P : Program} {w : World} {t e : TypeId} {i : TypeInfo} {A : Option Addr} {n cap : Nat} {lo hi : Option Value} {a b : Nat} (ht : P.underlying t = some (.slice e)) (hi' : P.info? e = some i) (hb : BoundIs hi n b) (ha : BoundIs lo 0 a) (h1 : a ≤ b) (h2 : b ≤ cap) :
 (Instr.sliceAt t (.slice A n cap) lo hi none).run P w = .ok (.slice (if cap = a then A else A.map (·.add (a * i.size))) (b - a) (cap - a)) w := by
 have hr := run_bounds (P := P) (w := w) (sl := true) hb ha h1 h2
 have e : (Instr.slice t (.slice A n cap) lo hi none).run P w = .ok (.slice (if cap = a then A else A.map (·.add (a * i.size))) (b - a) (cap - a)) w := by
  unfold Instr.slice
  rw [Sem.run_bind, run_underlying ht w]
  simp only [Result.andThen_ok, Sem.run_bind, Sem.run_pure, hr, sizeOf, typeInfo]
  simp [hi', go_sem]
 unfold Instr.sliceAt
 rw [Sem.run_bind, run_underlying ht w]
 simp only [Result.andThen_ok]
 exact e
theorem eSlL_ok {tx : Tx} {es : Nat} {x : Od} {lo hi : Option Od} {fr : Nat} {κ : KN} (h : eSlL es x lo hi fr κ = true) : ∃ r, κ r = true ∧ ∀ (s : Sg) (vx : Value) (vl vh : Option Value), Cl tx s .c (x fr) vx → OCl tx s fr lo vl → OCl tx s fr hi vh → ∃ v, RC tx s r v ∧ ∀ (P : Program) (t e : TypeId) (i : TypeInfo) (w : World), P.underlying t = some (.slice e) → P.info? e = some i → i.size = es → (Instr.sliceAt t vx vl vh none).run P w = .ok v w := by
 unfold eSlL at h
 obtain ⟨h0, id, eo, n, e, h, hs⟩ := sl_ok h
 obtain ⟨h1, h'⟩ := iff_tt h
 have h1 := beq_t h1
 subst h1
 obtain ⟨a, h, hla⟩ := bound_ok h'
 obtain ⟨b, h, hlb⟩ := bound_ok h
 unfold subL at h
 obtain ⟨h1, h⟩ := iff_tt h
 obtain ⟨h2, h⟩ := iff_tt h
 have h1 := ble_t h1
 have h2 := ble_t h2
 cases e0 : Nat.beq a 0 with
 | true =>
  rw [iff_true e0] at h
  have e0 := beq_t e0
  refine ⟨_, h, fun s vx vl vh cx cl ch => ?_⟩
  obtain ⟨B, k, rfl, g1, g2, g3, g4, g5, g6, g7⟩ := hs tx s vx cx
  have hb := hlb tx s vh ch
  have ha := hla tx s vl cl
  subst e0
  refine ⟨.slice (some ⟨B, eo * e, none⟩) b (k - eo), ?_, fun P t e' i w ht hi hsz => ?_⟩
  · rw [encL_eq]; exact .l _ _ _ _ _ _ g1 g2 g3 (by omega) g5 (by omega) g7
  · have hr := run_sliceL (P := P) (w := w) (A := some ⟨B, eo * e, none⟩) (cap := k - eo) ht hi hb ha h1 (by omega)
    rw [hr]
    simp [Addr.add]
 | false =>
  rw [iff_false e0] at h
  cases h3 : Nat.ble (Nat.succ a) b with
  | true =>
   rw [iff_true h3] at h
   have h3 := ble_t h3
   have h3 : a < b := h3
   refine ⟨_, h, fun s vx vl vh cx cl ch => ?_⟩
   obtain ⟨B, k, rfl, g1, g2, g3, g4, g5, g6, g7⟩ := hs tx s vx cx
   have hb := hlb tx s vh ch
   have ha := hla tx s vl cl
   refine ⟨.slice (some ⟨B, (eo + a) * e, none⟩) (b - a) (k - (eo + a)), ?_, fun P t e' i w ht hi hsz => ?_⟩
   · rw [encL_eq]; exact .l _ _ _ _ _ _ g1 g2 (by show eo + a < 4096; omega) (by show eo + a + (b - a) < 4096; omega) g5 (by show eo + a + (b - a) ≤ k; omega) g7
   · have hr := run_sliceL (P := P) (w := w) (A := some ⟨B, eo * e, none⟩) (cap := k - eo) ht hi hb ha h1 (by omega)
     rw [hr, if_neg (by omega), hsz]
     simp [add_mid, Nat.add_mul, Nat.sub_sub]
  | false =>
   rw [iff_false h3] at h
   have h3 : b < a + 1 := Nat.lt_of_not_le fun hh => by
    have : Nat.ble (Nat.succ a) b = true := Nat.ble_eq_true_of_le hh
    rw [this] at h3; cases h3
   refine ⟨_, h, fun s vx vl vh cx cl ch => ?_⟩
   obtain ⟨B, k, rfl, g1, g2, g3, g4, g5, g6, g7⟩ := hs tx s vx cx
   have hb := hlb tx s vh ch
   have ha := hla tx s vl cl
   refine ⟨.slice (some (if k - eo = a then ⟨B, eo * e, none⟩ else (⟨B, eo * e, none⟩ : Addr).add (a * e))) 0 (k - eo - a), .e _ _ (by omega), fun P t e' i w ht hi hsz => ?_⟩
   have hr := run_sliceL (P := P) (w := w) (A := some ⟨B, eo * e, none⟩) (cap := k - eo) ht hi hb ha h1 (by omega)
   rw [hr, hsz, show b - a = 0 by omega]
   by_cases hk : k - eo = a
   · rw [if_pos hk, if_pos hk]
   · rw [if_neg hk, if_neg hk]; rfl
theorem RL.at {tx : Tx} {s : Sg} {c k : Nat} {cs : List Value} (h : RL tx s c k cs) (i : Nat) (v : Value) (hv : cs[i]? = some v) : RC tx s (cel c i) v := by
 obtain ⟨hi, rfl⟩ := List.getElem?_eq_some_iff.1 hv
 exact h.2.2 i hi
theorem RL.part {tx : Tx} {s : Sg} {c k : Nat} {cs : List Value} (h : RL tx s c k cs) {off n : Nat} (hn : off + n ≤ k) : RL tx s (spn c (72 * off) (mk n)) n ((cs.drop off).take n) := by
 have hl := h.1
 refine ⟨by simp; omega, spn_lt _ _ _, fun i hi => ?_⟩
 have hin : i < n := by simp at hi; omega
 rw [cel_spn' hin]
 refine h.at _ _ ?_
 have e1 : ((cs.drop off).take n)[i]? = cs[off + i]? := by rw [List.getElem?_take_of_lt hin, List.getElem?_drop]
 rw [← e1]
 exact List.getElem?_eq_getElem hi
theorem RL.cell {tx : Tx} {s : Sg} {c k : Nat} {cs : List Value} (h : RL tx s c k cs) {off : Nat} (hn : off + 1 ≤ k) : ∃ v, cs[off]? = some v ∧ RC tx s (spn c (72 * off) (mk 1)) v := by
 have hl := h.1
 have h1 : cs[off]? = some cs[off] := List.getElem?_eq_getElem (by omega)
 refine ⟨_, h1, ?_⟩
 have := h.at _ _ h1
 rw [← cel_one (spn_lt c (72 * off) 1), cel_spn' (by omega : 0 < 1)]
 exact this
def shP (n : Nat) : Bool → Sh
 | true => .g n
 | false => .c
theorem shF_eq (x : Nat × Nat × Bool) : shF x = shP x.2.1 x.2.2 := by
 obtain ⟨a, b, c⟩ := x
 cases c <;> rfl
def isRow (P : Program) (t : TypeId) (ag : Bool) : Prop := ∃ d, P.underlying t = some d ∧ d.isRow = ag
theorem run_isAgg {P : Program} {t : TypeId} {ag : Bool} (h : isRow P t ag) (w : World) : (isAgg t).run P w = .ok ag w := by
 obtain ⟨d, h1, h2⟩ := h
 unfold isAgg
 rw [Sem.run_bind, run_underlying h1 w]
 subst h2
 cases d <;> simp
theorem part_ok {tx : Tx} {s : Sg} {c k : Nat} {cs : List Value} (h : RL tx s c k cs) {off n : Nat} {ag : Bool} (hn : off + n ≤ k) (h1 : ag = false → n = 1) : ∃ v, VR tx s (shP n ag) (spn c (72 * off) (mk n)) v ∧ ∀ (P : Program) (t : TypeId) (i : TypeInfo) (w : World), isRow P t ag → P.info? t = some i → i.size = n → (part t cs.toArray off).run P w = .ok v w := by
 cases ag with
 | true =>
  refine ⟨.agg ((cs.drop off).take n).toArray, ⟨_, rfl, h.part hn⟩, fun P t i w ht hi hsz => ?_⟩
  unfold part
  rw [Sem.run_bind, run_isAgg ht w]
  simp [sizeOf, typeInfo, hi, hsz, go_sem, List.extract]
 | false =>
  obtain rfl := h1 rfl
  obtain ⟨v, hv, hr⟩ := h.cell hn
  refine ⟨v, hr, fun P t i w ht hi hsz => ?_⟩
  unfold part
  rw [Sem.run_bind, run_isAgg ht w]
  simp [hv, go_sem]
theorem tuple_at {tx : Tx} {s : Sg} : ∀ (l : List (Nat × Bool)) (i o c : Nat) (vs : List Value) (x : Nat × Nat × Bool), TRl tx s l (c >>> (72 * o)) vs → offT l i o = some x → ∃ v, vs[i]? = some v ∧ VR tx s (shF x) (spn c (72 * x.1) (mk x.2.1)) v
 | [], i, o, c, vs, x, h, hx => by cases hx
 | (k, ag) :: r, 0, o, c, vs, x, h, hx => by
  have hx : some (o, k, ag) = some x := hx
  cases hx
  obtain ⟨v, vs', rfl, h1, h2⟩ := h
  refine ⟨v, rfl, ?_⟩
  rw [spn_eq]
  cases ag with
  | true => exact h1
  | false => exact h1.2
 | (k, ag) :: r, i + 1, o, c, vs, x, h, hx => by
  have hx : offT r i (o + k) = some x := hx
  obtain ⟨v, vs', rfl, h1, h2⟩ := h
  rw [← Nat.shiftRight_add, ← Nat.mul_add] at h2
  obtain ⟨v', h3, h4⟩ := tuple_at r i (o + k) c vs' x h2 hx
  exact ⟨v', h3, h4⟩
theorem Cl.sh {tx : Tx} {s : Sg} {n c : Nat} {ag : Bool} {v : Value} (h : VR tx s (shP n ag) c v) : Cl tx s (shP n ag) c v := ⟨fun _ => h, fun e c0 => by
  cases ag with
  | true => cases e
  | false => exact absurd c0 (RC.ne (show RC tx s c v from h)), VR.lt h⟩
theorem Cl.shF {tx : Tx} {s : Sg} {c : Nat} {x : Nat × Nat × Bool} {v : Value} (h : VR tx s (shF x) c v) : Cl tx s (shF x) c v := by
 rw [shF_eq] at h ⊢
 exact Cl.sh h
end Go.Proofs.YtehpobojopmilaaGreat.Ev
namespace Go.Proofs.YtehpobojopmilaaGreat.Ev
set_option linter.unusedVariables false
set_option linter.unusedSimpArgs false
open Go
set_option maxRecDepth 4000
theorem lenL_eq {α : Type} : ∀ (l : List α), lenL l = l.length
 | [] => rfl
 | x :: r => congrArg Nat.succ (lenL_eq r)
theorem numL_eq : ∀ (l : List UInt8), numL (l.map fun b => b.toNat) = numU l
 | [] => rfl
 | x :: r => by
  show x.toNat + 256 * numL (r.map fun b => b.toNat) = _
  rw [numL_eq r]; rfl
theorem longS_ok {tx : Tx} {s : Sg} {n c r : Nat} {l : List UInt8} (hn : n = l.length) (hc : c = numU l) (h8 : 8 < n) : ∀ (k : List (Nat × Nat × Nat)), longS tx n c k = some r → RC tx s r (.string ⟨⟨l⟩⟩)
 | [], h => by cases h
 | x :: k, h => by
  have ih := longS_ok (tx := tx) (s := s) (r := r) hn hc h8 k
  have h : iff' (Nat.beq x.1 n) (iff' (Nat.beq x.2.1 c) (iff' (Nat.beq (Nat.land (Nat.shiftRight tx.c (Nat.mul 8 x.2.2)) (mk8 n)) c) (iff' (Nat.ble (Nat.add x.2.2 n) 4095) (some (encZ x.2.2 n)) none) none) (longS tx n c k)) (longS tx n c k) = some r := h
  cases e1 : Nat.beq x.1 n with
  | false => rw [iff_false e1] at h; exact ih h
  | true =>
   rw [iff_true e1] at h
   cases e2 : Nat.beq x.2.1 c with
   | false => rw [iff_false e2] at h; exact ih h
   | true =>
    rw [iff_true e2] at h
    cases e3 : Nat.beq (Nat.land (Nat.shiftRight tx.c (Nat.mul 8 x.2.2)) (mk8 n)) c with
    | false => rw [iff_false e3] at h; cases h
    | true =>
     rw [iff_true e3] at h
     cases e4 : Nat.ble (Nat.add x.2.2 n) 4095 with
     | false => rw [iff_false e4] at h; cases h
     | true =>
      rw [iff_true e4] at h
      cases h
      have e3 := beq_t e3
      have e4 := ble_t e4
      have e4 : x.2.2 + n ≤ 4095 := e4
      rw [mk8_eq, land_mod] at e3
      have : l = txL tx x.2.2 n := numU_inj (by rw [txL_len, hn]) (by rw [numU_txL, ← hc, ← e3]; rfl)
      rw [this]
      have e : encZ x.2.2 n = 8 * (x.2.2 + n * 4096) + 5 := by
       show 8 * (x.2.2 + n <<< 12) + 5 = _
       rw [Nat.shiftLeft_eq]
      rw [e]
      exact .z _ _ h8 (by omega) (by omega)
theorem cval1_ok {tx : Tx} {s : Sg} {v : Value} {r : Nat} (h : cval1 tx v = some r) : RC tx s r v := by
 unfold cval1 at h
 split at h
 ·
  rename_i n
  cases e : Nat.ble n 1152921504606846975 with
  | false => rw [iff_false e] at h; cases h
  | true =>
   rw [iff_true e] at h; cases h
   have e := ble_t e
   exact rc_nat (by rw [encN_eq]; omega)
 ·
  rename_i n
  cases e : Nat.ble n 1152921504606846975 with
  | false => rw [iff_false e] at h; cases h
  | true =>
   rw [iff_true e] at h; cases h
   have e := ble_t e
   refine rc_int (m := 1152921504606846975 - n) ?_ ?_ (Nat.lt_of_not_le fun hh => by omega)
   · simp only [B8_eq, Nat.sub_eq, Nat.mul_eq]; omega
   · rw [Int.negSucc_eq]; omega
 ·
  rename_i n
  cases e : Nat.ble n 255 with
  | false => rw [iff_false e] at h; cases h
  | true =>
   rw [iff_true e] at h; cases h
   have e := ble_t e
   exact .u n (by omega)
 · cases h
   rename_i b
   have : iff' b 10 2 = bo b := by cases b <;> rfl
   rw [this]; exact .b b
 ·
  rename_i b
  have hl : lenL (bytesN b) = b.data.toList.length := by rw [lenL_eq]; simp [bytesN]
  have hn : numL (bytesN b) = numU b.data.toList := numL_eq _
  rw [hl, hn] at h
  cases e : Nat.ble b.data.toList.length 8 with
  | true =>
   rw [iff_true e] at h; cases h
   have e := ble_t e
   exact rc_str rfl rfl e
  | false =>
   rw [iff_false e] at h
   exact longS_ok rfl rfl (Nat.lt_of_not_le fun hh => by rw [Nat.ble_eq_true_of_le hh] at e; cases e) tx.k h
 · cases h; exact .p0
 · cases h; exact .l0
 · cases h
theorem cval1_tx {tx : Tx} {v : Value} (hv : ∀ b, v ≠ .string b) : cval1 tx v = cval1 noTx v := by
 cases v with
 | string b => exact absurd rfl (hv b)
 | int k n => cases k <;> cases n <;> rfl
 | pointer p => cases p <;> rfl
 | slice a n c => cases a <;> cases n <;> cases c <;> rfl
 | _ => rfl
theorem cval1_no {tx : Tx} {v : Value} {r : Nat} (h : cval1 noTx v = some r) : cval1 tx v = some r := by
 by_cases hv : ∃ b, v = .string b
 ·
  obtain ⟨b, rfl⟩ := hv
  have h : iff' (Nat.ble (lenL (bytesN b)) 8) (some (encS (lenL (bytesN b)) (numL (bytesN b)))) (longS noTx (lenL (bytesN b)) (numL (bytesN b)) noTx.k) = some r := h
  show iff' (Nat.ble (lenL (bytesN b)) 8) (some (encS (lenL (bytesN b)) (numL (bytesN b)))) (longS tx (lenL (bytesN b)) (numL (bytesN b)) tx.k) = some r
  cases e : Nat.ble (lenL (bytesN b)) 8 with
  | true => rw [e] at h; exact h
  | false => rw [e] at h; cases h
 · rw [cval1_tx fun b e => hv ⟨b, e⟩]; exact h
theorem RL.cons {tx : Tx} {s : Sg} {y c : Nat} {x : Value} {l : List Value} (hy : RC tx s y x) (ih : RL tx s c l.length l) : RL tx s (Nat.add y (Nat.shiftLeft c 72)) (x :: l).length (x :: l) := by
 have hlt : y < 2 ^ (72 * 1) := by rw [Nat.mul_one]; exact hy.lt
 have e : Nat.add y (Nat.shiftLeft c 72) = Nat.lor y (Nat.shiftLeft c (72 * 1)) := by rw [← add_app hlt, Nat.mul_one]
 rw [e]
 have e1 : (x :: l).length = 1 + l.length := by rw [List.length_cons, Nat.add_comm]
 have h2 : Nat.lor y (Nat.shiftLeft c (72 * 1)) < 2 ^ (72 * (x :: l).length) := by rw [e1]; exact app_lt hlt ih.2.1
 have h3 : ∀ (i : Nat) (h : i < (x :: l).length), RC tx s (cel (Nat.lor y (Nat.shiftLeft c (72 * 1))) i) (x :: l)[i] := fun i hi => by
  rw [cel_app hlt]
  cases i with
  | zero =>
   rw [if_pos Nat.one_pos, cel_one hy.lt]
   exact hy
  | succ i =>
   rw [if_neg (by omega), Nat.add_sub_cancel]
   exact ih.2.2 i (by simpa using hi)
 exact ⟨rfl, h2, h3⟩
theorem cvals_ok {tx : Tx} {s : Sg} : ∀ (l : List Value) (r : Nat), cvals tx l = some r → RL tx s r l.length l
 | [], r, h => by
  rw [cvals] at h
  obtain rfl := Option.some.inj h
  exact ⟨rfl, Nat.two_pow_pos _, fun i hi => absurd hi (Nat.not_lt_zero _)⟩
 | x :: l, r, h => by
  rw [cvals] at h
  obtain ⟨y, h1, h⟩ := bnd_some h
  obtain ⟨c, h2, h⟩ := bnd_some h
  rw [← Option.some.inj h]
  exact RL.cons (cval1_ok h1) (cvals_ok l c h2)
theorem cvals_no {tx : Tx} : ∀ (l : List Value) (r : Nat), cvals noTx l = some r → cvals tx l = some r
 | [], r, h => by rw [cvals] at h ⊢; exact h
 | x :: l, r, h => by
  rw [cvals] at h
  obtain ⟨y, h1, h⟩ := bnd_some h
  obtain ⟨c, h2, h⟩ := bnd_some h
  obtain rfl := Option.some.inj h
  rw [cvals, cval1_no (tx := tx) h1, cvals_no (tx := tx) l c h2]
  rfl
theorem cval_ok {tx : Tx} {s : Sg} {v : Value} {x : OdS} {fr : Nat} (h : cval tx v = some x) : VR tx s x.h (x.o fr) v := by
 unfold cval at h
 split at h
 ·
  rename_i cs
  obtain ⟨r, h1, h⟩ := bnd_some h
  cases h
  have := cvals_ok (s := s) _ _ h1
  rw [lenL_eq]
  exact ⟨cs.toList, by simp, this⟩
 · obtain ⟨r, h1, h⟩ := bnd_some h
   cases h
   exact cval1_ok h1
end Go.Proofs.YtehpobojopmilaaGreat.Ev
namespace Go.Proofs.YtehpobojopmilaaGreat.Ev
set_option linter.unusedVariables false
set_option linter.unusedSimpArgs false
open Go
set_option maxRecDepth 4000
theorem fold_set (off : Nat) : ∀ (l : List Value) (k : Nat) (cs : Array Value), off + k + l.length ≤ cs.size →
 ((l.zipIdx k).foldl (fun cs (x : Value × Nat) => cs.setIfInBounds (off + x.2) x.1) cs).size = cs.size ∧ ∀ j, ((l.zipIdx k).foldl (fun cs (x : Value × Nat) => cs.setIfInBounds (off + x.2) x.1) cs)[j]? = if off + k ≤ j ∧ j < off + k + l.length then l[j - (off + k)]? else cs[j]?
 | [], k, cs, _ => ⟨rfl, fun j => by
     rw [if_neg (by simp only [List.length_nil]; omega)]
     rfl⟩
 | v :: l, k, cs, h => by
  have h' : off + k + (l.length + 1) ≤ cs.size := h
  obtain ⟨h1, h2⟩ := fold_set off l (k + 1) (cs.setIfInBounds (off + k) v) (by rw [Array.size_setIfInBounds]; omega)
  rw [Array.size_setIfInBounds] at h1
  refine ⟨h1, fun j => ?_⟩
  have h3 := h2 j
  rw [List.zipIdx_cons, List.foldl_cons]
  rw [h3, Array.getElem?_setIfInBounds]
  by_cases hj : j = off + k
  · subst hj
    rw [if_neg (by omega), if_pos rfl, if_pos (by omega), if_pos (by simp only [List.length_cons]; omega), Nat.sub_self]
    rfl
  · by_cases hj2 : off + (k + 1) ≤ j ∧ j < off + (k + 1) + l.length
    · rw [if_pos hj2, if_pos (by simp only [List.length_cons]; omega)]
      rw [show j - (off + k) = (j - (off + (k + 1))) + 1 by omega, List.getElem?_cons_succ]
    · rw [if_neg hj2, if_neg (fun e => hj e.symm), if_neg (by simp only [List.length_cons]; omega)]
theorem VR.cells {tx : Tx} {s : Sg} {n : Nat} {ag : Bool} {c : Nat} {v : Value} (h : VR tx s (shP n ag) c v) (h1 : ag = false → n = 1) : RL tx s c n v.cells.toList ∧ v.cells.size = n ∧ ∀ u ∈ v.cells, u.oneCell' = true := by
 have hone : ∀ (cs : List Value) (k c : Nat), RL tx s c k cs → ∀ u ∈ cs, u.oneCell' = true := fun cs k c h u hu => by
  obtain ⟨i, hi, rfl⟩ := List.getElem_of_mem hu
  exact (h.2.2 i hi).one.2
 cases ag with
 | true =>
  obtain ⟨cs, rfl, h2⟩ := h
  exact ⟨h2, h2.1, fun u hu => hone cs _ _ h2 u (by simpa [Value.cells] using hu)⟩
 | false =>
  obtain rfl := h1 rfl
  have h : RC tx s c v := h
  rw [h.one.1]
  refine ⟨⟨rfl, by rw [Nat.mul_one]; exact h.lt, fun i hi => ?_⟩, rfl, fun u hu => ?_⟩
  · have : i = 0 := by simpa using hi
    subst this
    rw [cel_one h.lt]; exact h
  · have : u = v := by simpa using hu
    subst this
    exact h.one.2
theorem RL.put {tx : Tx} {s : Sg} {c k n off x : Nat} {cs vs : Array Value} (h : RL tx s c k cs.toList) (hv : RL tx s x n vs.toList) (hn : off + n ≤ k) :
 RL tx s (put c (72 * off) (mk n) x) k (vs.zipIdx.foldl (fun cs (c, j) => cs.setIfInBounds (off + j) c) cs).toList := by
 have hs : vs.toList.length = n := hv.1
 have hk : cs.toList.length = k := h.1
 have hk' : cs.size = k := hk
 have e : vs.zipIdx.foldl (fun cs (c, j) => cs.setIfInBounds (off + j) c) cs = (vs.toList.zipIdx 0).foldl (fun cs (x : Value × Nat) => cs.setIfInBounds (off + x.2) x.1) cs := by
  rw [← Array.foldl_toList, Array.toList_zipIdx]
 rw [e]
 obtain ⟨h1, h2⟩ := fold_set off vs.toList 0 cs (by omega)
 refine ⟨by rw [Array.length_toList, h1, hk'], put_lt h.2.1 hv.2.1 hn, fun i hi => ?_⟩
 have h3 := h2 i
 rw [cel_put hv.2.1]
 generalize hr : (vs.toList.zipIdx 0).foldl (fun cs (x : Value × Nat) => cs.setIfInBounds (off + x.2) x.1) cs = r at *
 have h4 : r[i]? = some r.toList[i] := by rw [← Array.getElem?_toList]; exact List.getElem?_eq_getElem hi
 rw [h4] at h3
 split
 · rename_i h5
   rw [if_pos (by omega), Nat.add_zero] at h3
   exact hv.at _ _ h3.symm
 · rename_i h5
   rw [if_neg (by omega)] at h3
   exact h.at _ _ (by rw [Array.getElem?_toList]; exact h3.symm)
structure PartIs (tx : Tx) (s : Sg) (fr k : Nat) (place : Nat → Option (Nat × Nat)) (p : Pa) (iv : Nat × Value) : Prop where
 ex : ∃ off n ag, place iv.1 = some (off, n) ∧ p.s = 72 * off ∧ p.m = mk n ∧ off + n ≤ k ∧ (ag = false → n = 1) ∧ Cl tx s (shP n ag) (p.o fr) iv.2
inductive All2 {α β : Type} (R : α → β → Prop) : List α → List β → Prop
 | nil : All2 R [] []
 | cons {a : α} {b : β} {l : List α} {m : List β} (h : R a b) (k : All2 R l m) : All2 R (a :: l) (b :: m)
theorem parts_ok {fr : Nat} {κ : KN} : ∀ (l : List Pa) (c : Nat), parts fr κ l c = true → ∃ r, κ r = true ∧ ∀ (tx : Tx) (s : Sg) (k : Nat) (place : Nat → Option (Nat × Nat)) (ivs : List (Nat × Value)) (cs : Array Value), All2 (PartIs tx s fr k place) l ivs → RL tx s c k cs.toList →
 ∃ cs' : Array Value, Instr.fill place cs ivs = some cs' ∧ RL tx s r k cs'.toList
 | [], c, h => ⟨c, h, fun tx s k place ivs cs hp hr => by
     cases hp
     exact ⟨cs, rfl, hr⟩⟩
 | p :: l, c, h => by
  have h : df (p.o fr) (parts fr κ l (put c p.s p.m (p.o fr))) = true := h
  obtain ⟨h0, h⟩ := df_t h
  obtain ⟨r, hr, hh⟩ := parts_ok l _ h
  refine ⟨r, hr, fun tx s k place ivs cs hp hc => ?_⟩
  cases hp with
  | cons h1 h2 =>
   rename_i iv ivs
   obtain ⟨off, n, ag, e1, e2, e3, e4, e5, e6⟩ := h1.ex
   obtain ⟨g1, g2, g3⟩ := VR.cells (e6.1 h0) e5
   have hcs : cs.size = k := hc.1
   obtain ⟨i, v⟩ := iv
   rw [e2, e3] at hh
   obtain ⟨cs', f1, f2⟩ := hh tx s k place ivs _ h2 (hc.put g1 e4)
   refine ⟨cs', ?_, f2⟩
   rw [Instr.fill]
   simp only at e1
   rw [e1]
   simp only
   have g2 : v.cells.size = n := g2
   have g4 : ¬ (v.cells.size ≠ n ∨ off + v.cells.size > cs.size) := fun hh => by
    rcases hh with hh | hh
    · exact hh g2
    · omega
   rw [if_neg (fun hh => g4 (by simpa using hh))]
   exact f1
end Go.Proofs.YtehpobojopmilaaGreat.Ev
namespace Go.Proofs.YtehpobojopmilaaGreat.Ev
set_option linter.unusedVariables false
set_option linter.unusedSimpArgs false
open Go
set_option maxRecDepth 4000
theorem iff_some {α : Type} {c : Bool} {k : Option α} {r : α} (h : iff' c k none = some r) : c = true ∧ k = some r := by cases c <;> simp_all [iff']
structure TyIs (P : Program) (t : TypeId) (ti : TI) (i : TypeInfo) (z : Value) : Prop where
 info : P.info? t = some i
 size : i.size = ti.sz
 zero : i.zero = some z
 zsize : z.cells.size = ti.sz
 cells : cvals noTx z.cells.toList = some ti.zero
 bytes : i.bytes ≤ 1048576
theorem TyIs.rl {P : Program} {t : TypeId} {ti : TI} {i : TypeInfo} {z : Value} (h : TyIs P t ti i z) (tx : Tx) (s : Sg) : RL tx s ti.zero ti.sz z.cells.toList := by
 have := cvals_ok (s := s) _ _ (cvals_no (tx := tx) _ _ h.cells)
 rw [← h.zsize]; exact this
theorem lenL_cells (z : Value) : lenL z.cells.toList = z.cells.size := lenL_eq _
theorem tiOf_st {P : Program} {t : TypeId} {ti : TI} {fs : List (Nat × Nat × Bool)} (h : tiOf P t = some ti) (hk : ti.k = .st fs) : ∃ i z fl, TyIs P t ti i z ∧ P.underlying t = some (.struct fl) ∧ fldOf P fl.toList = some fs ∧ fsOk ti.sz fs = true := by
 unfold tiOf at h
 obtain ⟨i, h1, h⟩ := bnd_some h
 obtain ⟨d, h2, h⟩ := bnd_some h
 obtain ⟨k, h3, h⟩ := bnd_some h
 cases k with
 | st fs' =>
  simp only at h
  obtain ⟨z, h4, h⟩ := bnd_some h
  obtain ⟨h5, h⟩ := iff_some h
  obtain ⟨h6, h⟩ := iff_some h
  obtain ⟨c, h7, h⟩ := bnd_some h
  simp only [str_eq] at h
  obtain ⟨h8, h⟩ := iff_some h
  cases h
  cases hk
  have h5 := beq_t h5
  rw [lenL_cells] at h5
  cases d with
  | struct fl =>
   have h3 : bnd (fldOf P fl.toList) (fun l => some (TK.st l)) = some (.st fs) := h3
   obtain ⟨l, h9, h3⟩ := bnd_some h3
   cases h3
   exact ⟨i, z, fl, ⟨h1, rfl, h4, h5, h7, ble_t h6⟩, h2, h9, h8⟩
  | slice e => cases h3
  | int k => cases h3
  | string => cases h3
  | tuple ts =>
   have h3 : bnd (tupOf P ts.toList) (fun l => some (TK.tu l)) = some (.st fs) := h3
   obtain ⟨l, h9, h3⟩ := bnd_some h3
   cases h3
  | _ => cases h3
 | tu l =>
  simp only at h
  obtain ⟨_, h⟩ := iff_some h
  cases h
  cases hk
 | _ =>
  simp only at h
  obtain ⟨z, h4, h⟩ := bnd_some h
  obtain ⟨h5, h⟩ := iff_some h
  obtain ⟨h6, h⟩ := iff_some h
  obtain ⟨h7, h⟩ := iff_some h
  obtain ⟨c, h8, h⟩ := bnd_some h
  simp only [str_eq] at h
  cases h
  cases hk
theorem tiOf_one {P : Program} {t : TypeId} {ti : TI} (h : tiOf P t = some ti) (h1 : ∀ fs, ti.k ≠ .st fs) (h2 : ∀ l, ti.k ≠ .tu l) : ∃ i z d, TyIs P t ti i z ∧ P.underlying t = some d ∧ ti.sz = 1 ∧ kndOf P d = some ti.k ∧ d.isRow = false := by
 unfold tiOf at h
 obtain ⟨i, g1, h⟩ := bnd_some h
 obtain ⟨d, g2, h⟩ := bnd_some h
 obtain ⟨k, g3, h⟩ := bnd_some h
 have hrow : (∀ fs, k ≠ .st fs) → (∀ l, k ≠ .tu l) → d.isRow = false := fun e1 e2 => by
  cases d with
  | struct fl =>
   have g3 : bnd (fldOf P fl.toList) (fun l => some (TK.st l)) = some k := g3
   obtain ⟨l, g9, g3⟩ := bnd_some g3
   cases g3
   exact absurd rfl (e1 l)
  | array n e => cases g3
  | _ => rfl
 have key : ∀ z : Value, i.zero = some z → Nat.beq (lenL z.cells.toList) 1 = true → Nat.beq i.size 1 = true → Nat.ble i.bytes 1048576 = true → ∀ c, cvals noTx z.cells.toList = some c → (some (⟨1, c, k⟩ : TI)) = some ti → (∀ fs, k ≠ .st fs) → (∀ l, k ≠ .tu l) → ∃ i z d, TyIs P t ti i z ∧ P.underlying t = some d ∧ ti.sz = 1 ∧ kndOf P d = some ti.k ∧ d.isRow = false := fun z g4 g5 g6 g7 c g8 h e1 e2 => by
  cases h
  have g5 := beq_t g5
  rw [lenL_cells] at g5
  exact ⟨i, z, d, ⟨g1, beq_t g6, g4, g5, g8, ble_t g7⟩, g2, rfl, g3, hrow e1 e2⟩
 cases k with
 | st fs' =>
  simp only at h
  obtain ⟨z, h4, h⟩ := bnd_some h
  obtain ⟨h5, h⟩ := iff_some h
  obtain ⟨h6, h⟩ := iff_some h
  obtain ⟨c, h7, h⟩ := bnd_some h
  simp only [str_eq] at h
  obtain ⟨h8, h⟩ := iff_some h
  cases h
  exact absurd rfl (h1 _)
 | tu l =>
  simp only at h
  obtain ⟨_, h⟩ := iff_some h
  cases h
  exact absurd rfl (h2 _)
 | sl e =>
  simp only at h
  obtain ⟨z, h4, h⟩ := bnd_some h
  obtain ⟨h5, h⟩ := iff_some h
  obtain ⟨h6, h⟩ := iff_some h
  obtain ⟨h7, h⟩ := iff_some h
  obtain ⟨c, h8, h⟩ := bnd_some h
  exact key z h4 h5 h6 h7 c h8 h (fun _ e => by cases e) (fun _ e => by cases e)
 | it e =>
  simp only at h
  obtain ⟨z, h4, h⟩ := bnd_some h
  obtain ⟨h5, h⟩ := iff_some h
  obtain ⟨h6, h⟩ := iff_some h
  obtain ⟨h7, h⟩ := iff_some h
  obtain ⟨c, h8, h⟩ := bnd_some h
  exact key z h4 h5 h6 h7 c h8 h (fun _ e => by cases e) (fun _ e => by cases e)
 | str =>
  simp only at h
  obtain ⟨z, h4, h⟩ := bnd_some h
  obtain ⟨h5, h⟩ := iff_some h
  obtain ⟨h6, h⟩ := iff_some h
  obtain ⟨h7, h⟩ := iff_some h
  obtain ⟨c, h8, h⟩ := bnd_some h
  exact key z h4 h5 h6 h7 c h8 h (fun _ e => by cases e) (fun _ e => by cases e)
 | other =>
  simp only at h
  obtain ⟨z, h4, h⟩ := bnd_some h
  obtain ⟨h5, h⟩ := iff_some h
  obtain ⟨h6, h⟩ := iff_some h
  obtain ⟨h7, h⟩ := iff_some h
  obtain ⟨c, h8, h⟩ := bnd_some h
  exact key z h4 h5 h6 h7 c h8 h (fun _ e => by cases e) (fun _ e => by cases e)
theorem knd_sl {P : Program} {d : TypeDesc} {e : Nat} (h : kndOf P d = some (.sl e)) : d = .slice e := by
 cases d with
 | slice e' => cases h; rfl
 | struct fl =>
  have h : bnd (fldOf P fl.toList) (fun l => some (TK.st l)) = some (.sl e) := h
  obtain ⟨l, _, h⟩ := bnd_some h
  cases h
 | tuple ts =>
  have h : bnd (tupOf P ts.toList) (fun l => some (TK.tu l)) = some (.sl e) := h
  obtain ⟨l, _, h⟩ := bnd_some h
  cases h
 | _ => cases h
theorem knd_it {P : Program} {d : TypeDesc} {e : IntKind} (h : kndOf P d = some (.it e)) : d = .int e := by
 cases d with
 | int e' => cases h; rfl
 | struct fl =>
  have h : bnd (fldOf P fl.toList) (fun l => some (TK.st l)) = some (.it e) := h
  obtain ⟨l, _, h⟩ := bnd_some h
  cases h
 | tuple ts =>
  have h : bnd (tupOf P ts.toList) (fun l => some (TK.tu l)) = some (.it e) := h
  obtain ⟨l, _, h⟩ := bnd_some h
  cases h
 | _ => cases h
theorem knd_str {P : Program} {d : TypeDesc} (h : kndOf P d = some .str) : d = .string := by
 cases d with
 | string => rfl
 | struct fl =>
  have h : bnd (fldOf P fl.toList) (fun l => some (TK.st l)) = some .str := h
  obtain ⟨l, _, h⟩ := bnd_some h
  cases h
 | tuple ts =>
  have h : bnd (tupOf P ts.toList) (fun l => some (TK.tu l)) = some .str := h
  obtain ⟨l, _, h⟩ := bnd_some h
  cases h
 | _ => cases h
theorem shOf_var {P : Program} {t : TypeId} {ti : TI} (h : tiOf P t = some ti) (h2 : ∀ l, ti.k ≠ .tu l) : ∃ ag i z, shOf ti = shP ti.sz ag ∧ isRow P t ag ∧ (ag = false → ti.sz = 1) ∧ TyIs P t ti i z := by
 by_cases hs : ∃ fs, ti.k = .st fs
 · obtain ⟨fs, hs⟩ := hs
   obtain ⟨i, z, fl, g1, g2, g3, g4⟩ := tiOf_st h hs
   exact ⟨true, i, z, by unfold shOf; rw [hs]; rfl, ⟨_, g2, rfl⟩, fun e => Bool.noConfusion e, g1⟩
 ·
  obtain ⟨i, z, d, g1, g2, g3, g4, g5⟩ := tiOf_one h (fun fs e => hs ⟨fs, e⟩) h2
  refine ⟨false, i, z, ?_, ⟨_, g2, g5⟩, fun _ => g3, g1⟩
  unfold shOf
  cases hk : ti.k with
  | st fs => exact absurd ⟨fs, hk⟩ hs
  | tu l => exact absurd hk (h2 l)
  | _ => rfl
theorem nth_eq {α : Type} : ∀ (l : List α) (i : Nat), nth l i = l[i]?
 | [], _ => by simp [nth]
 | x :: l, 0 => rfl
 | x :: l, i + 1 => nth_eq l i
theorem isRow_agg {P : Program} {t : TypeId} (h : hasU P t = true) : isRow P t (isAgg' P t) := by
 unfold hasU at h
 unfold isAgg' isRow
 cases hd : P.underlying t with
 | none => rw [hd] at h; cases h
 | some d => exact ⟨d, rfl, by cases d <;> rfl⟩
theorem fld_at {P : Program} : ∀ (fl : List Field) (fs : List (Nat × Nat × Bool)) (n f : Nat) (oz : Nat × Nat × Bool), fldOf P fl = some fs → fsOk n fs = true → fs[f]? = some oz → ∃ fd i, fl[f]? = some fd ∧ fd.offset = oz.1 ∧ P.info? fd.type = some i ∧ i.size = oz.2.1 ∧ isRow P fd.type oz.2.2 ∧ oz.1 + oz.2.1 ≤ n ∧ (oz.2.2 = false → oz.2.1 = 1)
 | [], fs, n, f, oz, h, _, hf => by
  rw [fldOf] at h
  cases h
  simp at hf
 | x :: fl, fs, n, f, oz, h, hk, hf => by
  rw [fldOf] at h
  obtain ⟨i, h1, h⟩ := bnd_some h
  obtain ⟨l, h2, h⟩ := bnd_some h
  obtain ⟨h3, h⟩ := iff_some h
  cases h
  have hk : iff' (Nat.ble (Nat.add x.offset i.size) n) (iff' (iff' (isAgg' P x.type) true (Nat.beq i.size 1)) (fsOk n l) false) false = true := hk
  obtain ⟨k1, hk⟩ := iff_tt hk
  obtain ⟨k2, hk⟩ := iff_tt hk
  cases f with
  | zero =>
   have : (x.offset, i.size, isAgg' P x.type) = oz := by simpa using hf
   subst this
   refine ⟨x, i, rfl, rfl, h1, rfl, isRow_agg h3, ble_t k1, fun e => ?_⟩
   rw [iff_false e] at k2
   exact beq_t k2
  | succ f =>
   obtain ⟨fd, i', g⟩ := fld_at fl l n f oz h2 hk (by simpa using hf)
   exact ⟨fd, i', by simpa using g⟩
end Go.Proofs.YtehpobojopmilaaGreat.Ev
namespace Go.Proofs.YtehpobojopmilaaGreat.Ev
set_option linter.unusedVariables false
set_option linter.unusedSimpArgs false
open Go
set_option maxRecDepth 4000
theorem bod_some {α : Type} {x : Option OdS} {f : Od → Sh → Option α} {y : α} (h : bod x f = some y) : ∃ o hs, x = some ⟨o, hs⟩ ∧ f o hs = some y := by
 cases x with
 | none => cases h
 | some x => obtain ⟨o, hs⟩ := x; exact ⟨o, hs, rfl, h⟩
theorem boc_some {α : Type} {tx : Tx} {L : T Ly} {A : List Al} {G : Option (Nat × Bool)} {o : Operand} {f : Od → Option α} {y : α} (h : boc (cOc' tx L A G o) f = some y) : ∃ od, cOd tx L A G o = some ⟨od, .c⟩ ∧ f od = some y := by
 unfold cOc' at h
 cases e : bod (cOd tx L A G o) isC with
 | none => rw [e] at h; cases h
 | some x =>
  rw [e] at h
  obtain ⟨od, hs, h1, h2⟩ := bod_some e
  cases hs with
  | c => cases h2; exact ⟨od, h1, h⟩
  | _ => cases h2
def PuOk (P : Program) (tx : Tx) (L : T Ly) (A : List Al) (G : Option (Nat × Bool)) (op : Op) (h : Sh) (fr c : Nat) : Prop :=
 ∀ (s : Sg) (ρ : Operand → Value), (∀ o, o ∈ op.operands → ∀ x, cOd tx L A G o = some x → Cl tx s x.h (x.o fr) (ρ o)) → ∃ v, Cl tx s h c v ∧ ∀ (o : Oper) (w : World), o.op = op → (execOp ρ o).run P w = .ok (.value v) w
section
variable {P : Program} {TY : T TI} {tx : Tx} {L : T Ly} {A : List Al} {G : Option (Nat × Bool)} {fr : Nat} {κ : KN} {g : Nat → KN → Bool} {hs : Sh} {ld : Bool}
theorem run_v {m : Sem Value} {v : Value} {w w' : World} (h : m.run P w = .ok v w') : (do pure (.value (← m)) : Sem Next).run P w = .ok (.value v) w' := by
 rw [Sem.run_bind, h]; rfl
theorem pu_inj {h : Sh} {g g' : Nat → KN → Bool} (e : pu h g = some ⟨.pu g', hs⟩) : h = hs ∧ g = g' := by
 unfold pu at e
 cases e
 exact ⟨rfl, rfl⟩
theorem shEq_eq : ∀ {a b : Sh}, shEq a b = true → a = b := by
 have hl : ∀ (a b : List (Nat × Bool)), leqK a b = true → a = b := by
  intro a
  induction a with
  | nil => intro b h; cases b with
   | nil => rfl
   | cons x b => simp [leqK] at h
  | cons x a ih => intro b h; cases b with
   | nil => simp [leqK] at h
   | cons y b =>
    rw [leqK] at h
    obtain ⟨h1, h2⟩ := iff_tt h
    obtain ⟨h3, h4⟩ := iff_tt h2
    obtain ⟨x1, x2⟩ := x
    obtain ⟨y1, y2⟩ := y
    have h1 : x1 = y1 := beq_t h1
    have : x2 = y2 := by cases x2 <;> cases y2 <;> simp_all [iff', neg]
    rw [ih b h4, this, h1]
 intro a b h
 cases a <;> cases b <;> simp only [shEq, Bool.false_eq_true] at h <;> first | rfl | (rw [beq_t h]) | (rw [hl _ _ h])
theorem varTy (hT : ∀ t ti, TY.get t = some ti → tiOf P t = some ti) {t : Nat} {ti : TI} (t1 : varOf TY t = some ti) : TY.get t = some ti ∧ ∃ ag i z, shOf ti = shP ti.sz ag ∧ isRow P t ag ∧ (ag = false → ti.sz = 1) ∧ TyIs P t ti i z := by
 unfold varOf at t1
 obtain ⟨ti', t2, t1⟩ := bnd_some t1
 obtain ⟨t3, t1⟩ := iff_some t1
 obtain ⟨t4, t1⟩ := iff_some t1
 cases t1
 exact ⟨t2, shOf_var (hT _ _ t2) fun l e => by unfold isVar at t3; rw [e] at t3; cases t3⟩
theorem varPos {t : Nat} {ti : TI} (t1 : varOf TY t = some ti) : 1 ≤ ti.sz := by
 unfold varOf at t1
 obtain ⟨ti', t2, t1⟩ := bnd_some t1
 obtain ⟨t3, t1⟩ := iff_some t1
 obtain ⟨t4, t1⟩ := iff_some t1
 cases t1
 exact ble_t t4
theorem slTy (hT : ∀ t ti, TY.get t = some ti → tiOf P t = some ti) {t e : Nat} {ti te : TI} (t1 : TY.get t = some ti) (t2 : slOf ti = some e) (t3 : elOf TY e = some te) : P.underlying t = some (.slice e) ∧ ∃ i, P.info? e = some i ∧ i.size = te.sz ∧ 1 ≤ te.sz ∧ te.sz ≤ 4095 ∧ TY.get e = some te := by
 have hk : ti.k = .sl e := by
  unfold slOf at t2
  cases hk : ti.k with
  | sl e' => rw [hk] at t2; cases t2; rfl
  | _ => rw [hk] at t2; cases t2
 obtain ⟨i, z, d, g1, g2, g3, g4, g5⟩ := tiOf_one (hT _ _ t1) (fun fs e => by rw [hk] at e; cases e) (fun fs e => by rw [hk] at e; cases e)
 rw [hk] at g4
 obtain rfl := knd_sl g4
 unfold elOf at t3
 obtain ⟨te', t7, t3⟩ := bnd_some t3
 obtain ⟨t5, t3⟩ := iff_some t3
 obtain ⟨t6, t3⟩ := iff_some t3
 cases t3
 obtain ⟨t4, ag, i, z, _, _, _, g⟩ := varTy hT t7
 exact ⟨g2, i, g.info, g.size, ble_t t5, ble_t t6, t4⟩
theorem pick_ok {c a b : Operand} (h : cOp P TY tx L A G ld (.pick c a b) = some ⟨.pu g, hs⟩) (hg : g fr κ = true) : ∃ r, κ r = true ∧ PuOk P tx L A G (.pick c a b) hs fr r := by
 rw [cOp] at h
 obtain ⟨oc, h1, h⟩ := boc_some h
 obtain ⟨oa, ha, h2, h⟩ := bod_some h
 obtain ⟨ob, hb, h3, h⟩ := bod_some h
 obtain ⟨h4, h⟩ := iff_some h
 obtain ⟨rfl, rfl⟩ := pu_inj h
 obtain rfl := shEq_eq h4
 obtain ⟨r, hr, hh⟩ := ePick_ok hg
 refine ⟨r, hr, fun s ρ hρ => ?_⟩
 have k1 : Cl tx s .c (oc fr) (ρ c) := hρ c (by simp [Op.operands]) _ h1
 have k2 : Cl tx s ha (oa fr) (ρ a) := hρ a (by simp [Op.operands]) _ h2
 have k3 : Cl tx s ha (ob fr) (ρ b) := hρ b (by simp [Op.operands]) _ h3
 obtain ⟨v, hv, hw⟩ := hh tx s ha _ _ _ k1 k2 k3
 refine ⟨v, hv, fun o w ho => ?_⟩
 unfold execOp
 rw [ho]
 exact hw P w
theorem not_ok {t : TypeId} {x : Operand} (h : cOp P TY tx L A G ld (.unOp .not t x) = some ⟨.pu g, hs⟩) (hg : g fr κ = true) : ∃ r, κ r = true ∧ PuOk P tx L A G (.unOp .not t x) hs fr r := by
 rw [cOp] at h
 obtain ⟨ox, h1, h⟩ := boc_some h
 obtain ⟨rfl, rfl⟩ := pu_inj h
 obtain ⟨r, hr, hh⟩ := eNot_ok hg
 refine ⟨r, hr, fun s ρ hρ => ?_⟩
 obtain ⟨v, hv, hw⟩ := hh tx s _ (hρ x (by simp [Op.operands]) _ h1)
 refine ⟨v, Cl.of hv, fun o w ho => ?_⟩
 unfold execOp
 rw [ho]
 exact run_v (hw P w)
theorem bin_ok {op : BinOp} {t t' : TypeId} {x y : Operand} (h : cOp P TY tx L A G ld (.binOp op t x y t') = some ⟨.pu g, hs⟩) (hg : g fr κ = true) : ∃ r, κ r = true ∧ PuOk P tx L A G (.binOp op t x y t') hs fr r := by
 rw [cOp] at h
 obtain ⟨ox, h1, h⟩ := boc_some h
 obtain ⟨oy, h2, h⟩ := boc_some h
 obtain ⟨f, h3, h⟩ := bnd_some h
 obtain ⟨rfl, rfl⟩ := pu_inj h
 obtain ⟨r, hr, hh⟩ := selBin_ok h3 hg
 refine ⟨r, hr, fun s ρ hρ => ?_⟩
 obtain ⟨v, hv, hw⟩ := hh tx s _ _ (hρ x (by simp [Op.operands]) _ h1) (hρ y (by simp [Op.operands]) _ h2)
 refine ⟨v, Cl.of hv, fun o w ho => ?_⟩
 unfold execOp
 rw [ho]
 exact run_v (hw P t x y w)
theorem nil_ok {x : Operand} (h : cOp P TY tx L A G ld (.nilCheck x) = some ⟨.pu g, hs⟩) (hg : g fr κ = true) : ∃ r, κ r = true ∧ PuOk P tx L A G (.nilCheck x) hs fr r := by
 rw [cOp] at h
 obtain ⟨ox, h1, h⟩ := boc_some h
 obtain ⟨rfl, rfl⟩ := pu_inj h
 unfold eNil at hg
 obtain ⟨h0, id, co, hk, hp⟩ := pt_ok hg
 refine ⟨_, hk, fun s ρ hρ => ?_⟩
 have k1 : Cl tx s .c (ox fr) (ρ x) := hρ x (by simp [Op.operands]) _ h1
 obtain ⟨b, k, e, _⟩ := hp tx s _ k1
 refine ⟨_, k1, fun o w ho => ?_⟩
 unfold execOp
 rw [ho]
 simp only [e]
 rfl
theorem indexAddr_ok (hT : ∀ t ti, TY.get t = some ti → tiOf P t = some ti) {t : TypeId} {x ix : Operand} (h : cOp P TY tx L A G ld (.indexAddr t x ix) = some ⟨.pu g, hs⟩) (hg : g fr κ = true) : ∃ r, κ r = true ∧ PuOk P tx L A G (.indexAddr t x ix) hs fr r := by
 rw [cOp] at h
 obtain ⟨ti, t1, h⟩ := bnd_some h
 obtain ⟨e, t2, h⟩ := bnd_some h
 obtain ⟨te, t3, h⟩ := bnd_some h
 obtain ⟨ox, h1, h⟩ := boc_some h
 obtain ⟨oi, h2, h⟩ := boc_some h
 obtain ⟨rfl, rfl⟩ := pu_inj h
 obtain ⟨r, hr, hh⟩ := eIA_ok hg
 refine ⟨r, hr, fun s ρ hρ => ?_⟩
 obtain ⟨v, hv, hw⟩ := hh tx s _ _ (hρ x (by simp [Op.operands]) _ h1) (hρ ix (by simp [Op.operands]) _ h2)
 obtain ⟨u1, i, u2, u3, _⟩ := slTy hT t1 t2 t3
 refine ⟨v, Cl.of hv, fun o w ho => ?_⟩
 unfold execOp
 rw [ho]
 exact run_v (hw P t e i w u1 u2 u3)
end
end Go.Proofs.YtehpobojopmilaaGreat.Ev
namespace Go.Proofs.YtehpobojopmilaaGreat.Ev
set_option linter.unusedVariables false
set_option linter.unusedSimpArgs false
open Go
set_option maxRecDepth 4000
section
variable {P : Program} {TY : T TI} {tx : Tx} {L : T Ly} {A : List Al} {G : Option (Nat × Bool)} {fr : Nat} {κ : KN} {g : Nat → KN → Bool} {hs : Sh} {ld : Bool}
theorem stTy (hT : ∀ t ti, TY.get t = some ti → tiOf P t = some ti) {t f : Nat} {ti : TI} {fs : List (Nat × Nat × Bool)} {oz : Nat × Nat × Bool} (t1 : TY.get t = some ti) (t2 : stOf ti = some fs) (t3 : nth fs f = some oz) :
 shOf ti = .g ti.sz ∧ ∃ fl fd i, P.underlying t = some (.struct fl) ∧ fl[f]? = some fd ∧ fd.offset = oz.1 ∧ P.info? fd.type = some i ∧ i.size = oz.2.1 ∧ isRow P fd.type oz.2.2 ∧ oz.1 + oz.2.1 ≤ ti.sz ∧ (oz.2.2 = false → oz.2.1 = 1) := by
 have hk : ti.k = .st fs := by
  unfold stOf at t2
  cases hk : ti.k with
  | st e' => rw [hk] at t2; cases t2; rfl
  | _ => rw [hk] at t2; cases t2
 obtain ⟨i, z, fl, g1, g2, g3, g4⟩ := tiOf_st (hT _ _ t1) hk
 rw [nth_eq] at t3
 obtain ⟨fd, i', k1, k2⟩ := fld_at _ _ _ _ _ g3 g4 t3
 exact ⟨by unfold shOf; rw [hk], fl, fd, i', g2, by rw [← Array.getElem?_toList]; exact k1, k2⟩
theorem fieldAddr_ok (hT : ∀ t ti, TY.get t = some ti → tiOf P t = some ti) {t f : Nat} {x : Operand} (h : cOp P TY tx L A G ld (.fieldAddr t x f) = some ⟨.pu g, hs⟩) (hg : g fr κ = true) : ∃ r, κ r = true ∧ PuOk P tx L A G (.fieldAddr t x f) hs fr r := by
 rw [cOp] at h
 obtain ⟨ti, t1, h⟩ := bnd_some h
 obtain ⟨fs, t2, h⟩ := bnd_some h
 obtain ⟨oz, t3, h⟩ := bnd_some h
 obtain ⟨t4, h⟩ := iff_some h
 obtain ⟨ox, h1, h⟩ := boc_some h
 obtain ⟨rfl, rfl⟩ := pu_inj h
 obtain ⟨r, hr, hh⟩ := eFA_ok rfl hg
 refine ⟨r, hr, fun s ρ hρ => ?_⟩
 obtain ⟨b, co, e, hv⟩ := hh tx s _ (hρ x (by simp [Op.operands]) _ h1)
 obtain ⟨_, fl, fd, i, u1, u2, u3, u4, u5, _⟩ := stTy hT t1 t2 t3
 refine ⟨_, Cl.of hv, fun o w ho => ?_⟩
 unfold execOp
 rw [ho]
 refine run_v ?_
 have t4 := ble_t t4
 have hne : ¬ oz.2.1 = 0 := by omega
 simp [Instr.fieldAt, run_underlying u1, u2, e, Instr.sureAddr, fieldPlace, sizeOf, typeInfo, u4, u5, hne, add_mid, u3, go_sem]
theorem field_ok (hT : ∀ t ti, TY.get t = some ti → tiOf P t = some ti) {t f : Nat} {x : Operand} (h : cOp P TY tx L A G ld (.field t x f) = some ⟨.pu g, hs⟩) (hg : g fr κ = true) : ∃ r, κ r = true ∧ PuOk P tx L A G (.field t x f) hs fr r := by
 rw [cOp] at h
 obtain ⟨ti, t1, h⟩ := bnd_some h
 obtain ⟨fs, t2, h⟩ := bnd_some h
 obtain ⟨oz, t3, h⟩ := bnd_some h
 obtain ⟨ox, h1, h⟩ := bnd_some h
 obtain ⟨t4, h⟩ := iff_some h
 obtain ⟨rfl, rfl⟩ := pu_inj h
 obtain ⟨h0, hk⟩ := df_t hg
 refine ⟨_, hk, fun s ρ hρ => ?_⟩
 obtain ⟨u0, fl, fd, i, u1, u2, u3, u4, u5, u6, u7, u8⟩ := stTy hT t1 t2 t3
 have k1 := (hρ x (by simp [Op.operands]) _ h1).1 h0
 rw [shEq_eq t4, u0] at k1
 obtain ⟨cs, e, k1⟩ := k1
 obtain ⟨v, hv, hw⟩ := part_ok k1 u7 u8
 refine ⟨v, by rw [shF_eq]; exact Cl.sh hv, fun o w ho => ?_⟩
 unfold execOp
 rw [ho]
 refine run_v ?_
 have := hw P fd.type i w u6 u4 u5
 rw [← u3] at this
 unfold Instr.field
 rw [Sem.run_bind, run_underlying u1 w]
 simp only [Result.andThen_ok, u2, e, asAgg, Sem.run_bind, Sem.run_pure, this]
theorem strTy (hT : ∀ t ti, TY.get t = some ti → tiOf P t = some ti) {t : Nat} {ti : TI} (t1 : TY.get t = some ti) (t2 : isStr ti = true) : P.underlying t = some .string := by
 have hk : ti.k = .str := by
  unfold isStr at t2
  cases hk : ti.k with
  | str => rfl
  | _ => rw [hk] at t2; cases t2
 obtain ⟨i, z, d, g1, g2, g3, g4, g5⟩ := tiOf_one (hT _ _ t1) (fun fs e => by rw [hk] at e; cases e) (fun fs e => by rw [hk] at e; cases e)
 rw [hk] at g4
 obtain rfl := knd_str g4
 exact g2
theorem itTy (hT : ∀ t ti, TY.get t = some ti → tiOf P t = some ti) {t : Nat} {ti : TI} {k : IntKind} (t1 : TY.get t = some ti) (hk : ti.k = .it k) : P.underlying t = some (.int k) := by
 obtain ⟨i, z, d, g1, g2, g3, g4, g5⟩ := tiOf_one (hT _ _ t1) (fun fs e => by rw [hk] at e; cases e) (fun fs e => by rw [hk] at e; cases e)
 rw [hk] at g4
 obtain rfl := knd_it g4
 exact g2
theorem index_ok (hT : ∀ t ti, TY.get t = some ti → tiOf P t = some ti) {t : TypeId} {x ix : Operand} (h : cOp P TY tx L A G ld (.index t x ix) = some ⟨.pu g, hs⟩) (hg : g fr κ = true) : ∃ r, κ r = true ∧ PuOk P tx L A G (.index t x ix) hs fr r := by
 rw [cOp] at h
 obtain ⟨ti, t1, h⟩ := bnd_some h
 obtain ⟨t2, h⟩ := iff_some h
 obtain ⟨ox, h1, h⟩ := boc_some h
 obtain ⟨oi, h2, h⟩ := boc_some h
 obtain ⟨rfl, rfl⟩ := pu_inj h
 obtain ⟨r, hr, hh⟩ := eIx_ok hg
 refine ⟨r, hr, fun s ρ hρ => ?_⟩
 obtain ⟨v, hv, hw⟩ := hh s _ _ (hρ x (by simp [Op.operands]) _ h1) (hρ ix (by simp [Op.operands]) _ h2)
 refine ⟨v, Cl.of hv, fun o w ho => ?_⟩
 unfold execOp
 rw [ho]
 exact run_v (hw P t w (strTy hT t1 t2))
theorem cOpt_some {s : Sg} {ρ : Operand → Value} {o : Option Operand} {y : Option Od} (h : cOpt tx L A G o = some y) (hρ : ∀ x, o = some x → ∀ z, cOd tx L A G x = some z → Cl tx s z.h (z.o fr) (ρ x)) : OCl tx s fr y (o.map ρ) := by
 cases o with
 | none => cases h; trivial
 | some x =>
  have h : boc (cOc' tx L A G x) (fun o => some (some o)) = some y := h
  obtain ⟨od, h1, h⟩ := boc_some h
  cases h
  exact hρ x rfl _ h1
theorem slice_ok (hT : ∀ t ti, TY.get t = some ti → tiOf P t = some ti) {t : TypeId} {x : Operand} {lo hi : Option Operand} (h : cOp P TY tx L A G ld (.slice t x lo hi none) = some ⟨.pu g, hs⟩) (hg : g fr κ = true) : ∃ r, κ r = true ∧ PuOk P tx L A G (.slice t x lo hi none) hs fr r := by
 rw [cOp] at h
 obtain ⟨ox, h1, h⟩ := boc_some h
 obtain ⟨ol, h2, h⟩ := bnd_some h
 obtain ⟨oh, h3, h⟩ := bnd_some h
 obtain ⟨ti, t1, h⟩ := bnd_some h
 have fin : ∀ r : Nat, (∀ (s : Sg) (vx : Value) (vl vh : Option Value), Cl tx s .c (ox fr) vx → OCl tx s fr ol vl → OCl tx s fr oh vh → ∃ v, RC tx s r v ∧ ∀ w : World, (Instr.sliceAt t vx vl vh none).run P w = .ok v w) → PuOk P tx L A G (.slice t x lo hi none) .c fr r := fun r hh s ρ hρ => by
  obtain ⟨v, hv, hw⟩ := hh s _ _ _ (hρ x (by simp [Op.operands]) _ h1) (cOpt_some (ρ := ρ) h2 fun y e => hρ y (by subst e; simp [Op.operands])) (cOpt_some (ρ := ρ) h3 fun y e => hρ y (by subst e; simp [Op.operands]))
  refine ⟨v, Cl.of hv, fun o w ho => ?_⟩
  unfold execOp
  rw [ho]
  exact run_v (hw w)
 cases t2 : isStr ti with
 | true =>
  rw [iff_true t2] at h
  obtain ⟨rfl, rfl⟩ := pu_inj h
  obtain ⟨r, hr, hh⟩ := eSlS_ok hg
  refine ⟨r, hr, fin r fun s vx vl vh k1 k2 k3 => ?_⟩
  obtain ⟨v, hv, hw⟩ := hh s vx vl vh k1 k2 k3
  exact ⟨v, hv, fun w => hw P t w (strTy hT t1 t2)⟩
 | false =>
  rw [iff_false t2] at h
  obtain ⟨e, t3, h⟩ := bnd_some h
  obtain ⟨te, t4, h⟩ := bnd_some h
  obtain ⟨rfl, rfl⟩ := pu_inj h
  obtain ⟨r, hr, hh⟩ := eSlL_ok (tx := tx) hg
  obtain ⟨u1, i, u2, u3, _⟩ := slTy hT t1 t3 t4
  refine ⟨r, hr, fin r fun s vx vl vh k1 k2 k3 => ?_⟩
  obtain ⟨v, hv, hw⟩ := hh s vx vl vh k1 k2 k3
  exact ⟨v, hv, fun w => hw P t e i w u1 u2 u3⟩
end
end Go.Proofs.YtehpobojopmilaaGreat.Ev
namespace Go.Proofs.YtehpobojopmilaaGreat.Ev
set_option linter.unusedVariables false
set_option linter.unusedSimpArgs false
open Go
set_option maxRecDepth 4000
section
variable {P : Program} {TY : T TI} {tx : Tx} {L : T Ly} {A : List Al} {G : Option (Nat × Bool)} {fr : Nat} {κ : KN} {g : Nat → KN → Bool} {hs : Sh} {ld : Bool}
theorem convert_ok (hT : ∀ t ti, TY.get t = some ti → tiOf P t = some ti) {t d : TypeId} {x : Operand} (h : cOp P TY tx L A G ld (.convert t d x) = some ⟨.pu g, hs⟩) (hg : g fr κ = true) : ∃ r, κ r = true ∧ PuOk P tx L A G (.convert t d x) hs fr r := by
 rw [cOp] at h
 obtain ⟨t1, k1, h⟩ := bnd_some h
 obtain ⟨t2, k2, h⟩ := bnd_some h
 obtain ⟨ox, h1, h⟩ := boc_some h
 unfold cConv at h
 split at h
 ·
  rename_i e1 e2
  obtain ⟨rfl, rfl⟩ := pu_inj h
  obtain ⟨r, hr, hh⟩ := eConvI_ok (tx := tx) hg
  refine ⟨r, hr, fun s ρ hρ => ?_⟩
  obtain ⟨v, hv, hw⟩ := hh s _ (hρ x (by simp [Op.operands]) _ h1)
  refine ⟨v, Cl.of hv, fun o w ho => ?_⟩
  unfold execOp
  rw [ho]
  exact run_v (hw P t d w (itTy hT k1 e1) (itTy hT k2 e2))
 ·
  rename_i e1 e2
  obtain ⟨rfl, rfl⟩ := pu_inj h
  obtain ⟨r, hr, hh⟩ := eConvU_ok (tx := tx) hg
  refine ⟨r, hr, fun s ρ hρ => ?_⟩
  obtain ⟨v, hv, hw⟩ := hh s _ (hρ x (by simp [Op.operands]) _ h1)
  refine ⟨v, Cl.of hv, fun o w ho => ?_⟩
  unfold execOp
  rw [ho]
  exact run_v (hw P t d w (itTy hT k1 e1) (itTy hT k2 e2))
 · obtain ⟨te, k3, h⟩ := bnd_some h
   obtain ⟨k4, h⟩ := iff_some h
   cases h
 · cases h
theorem extract_ok {x : Operand} {i : Nat} (h : cOp P TY tx L A G ld (.extract x i) = some ⟨.pu g, hs⟩) (hg : g fr κ = true) : ∃ r, κ r = true ∧ PuOk P tx L A G (.extract x i) hs fr r := by
 rw [cOp] at h
 obtain ⟨ox, h1, h⟩ := bnd_some h
 split at h
 ·
  rename_i l hl
  obtain ⟨oz, h2, h⟩ := bnd_some h
  obtain ⟨rfl, rfl⟩ := pu_inj h
  obtain ⟨h0, hk⟩ := df_t hg
  refine ⟨_, hk, fun s ρ hρ => ?_⟩
  have k1 := (hρ x (by simp [Op.operands]) _ h1).1 h0
  rw [hl] at k1
  obtain ⟨vs, e, k1⟩ := k1
  obtain ⟨v, hv, hw⟩ := tuple_at l i 0 (ox.o fr) vs oz (by simpa using k1) h2
  refine ⟨v, Cl.shF hw, fun o w ho => ?_⟩
  unfold execOp
  rw [ho]
  refine run_v ?_
  simp [Instr.extract, e, hv, go_sem]
 · cases h
theorem slTy' (hT : ∀ t ti, TY.get t = some ti → tiOf P t = some ti) {t e : Nat} {ti : TI} (t1 : TY.get t = some ti) (hk : ti.k = .sl e) : P.underlying t = some (.slice e) := by
 obtain ⟨i, z, d, g1, g2, g3, g4, g5⟩ := tiOf_one (hT _ _ t1) (fun fs e => by rw [hk] at e; cases e) (fun fs e => by rw [hk] at e; cases e)
 rw [hk] at g4
 obtain rfl := knd_sl g4
 exact g2
theorem len_ok (hT : ∀ t ti, TY.get t = some ti → tiOf P t = some ti) {c : Call} (hc : c.callee = .builtin .len) (h : cOp P TY tx L A G ld (.call c) = some ⟨.pu g, hs⟩) (hg : g fr κ = true) : ∃ r, κ r = true ∧ PuOk P tx L A G (.call c) hs fr r := by
 rw [cOp] at h
 unfold cCall at h
 rw [hc] at h
 simp only at h
 unfold cCallB at h
 split at h
 ·
  rename_i x _ hx
  obtain ⟨ox, h1, h⟩ := boc_some h
  obtain ⟨t, h2, h⟩ := bnd_some h
  obtain ⟨ti, t1, h⟩ := bnd_some h
  rw [nth_eq, Array.getElem?_toList] at h2
  have hargs : c.args = #[x] := by rw [← Array.toArray_toList (xs := c.args), hx]
  have hop : ∀ o : Operand, o = x → o ∈ (Op.call c).operands := fun o e => by
   subst e
   simp [Op.operands, Call.operands, hargs, hc]
  have fin : ∀ (ρ : Operand → Value) (v : Value) (o : Oper) (w : World), o.op = .call c → (∀ ty, (Builtin.len_ c.argTypes ty #[ρ x]).run P w = .ok v w) → (execOp ρ o).run P w = .ok (.value v) w := fun ρ v o w ho hr => by
   unfold execOp
   rw [ho]
   simp only [resolve, hc, invoke, builtin, hargs, Sem.run_bind, Sem.run_pure, Result.andThen_ok, List.map_toArray, List.map_cons, List.map_nil, hr]
  unfold cLen at h
  split at h
  · rename_i e1
    obtain ⟨rfl, rfl⟩ := pu_inj h
    obtain ⟨r, hr, hh⟩ := eLenS_ok (tx := tx) hg
    refine ⟨r, hr, fun s ρ hρ => ?_⟩
    obtain ⟨v, hv, hw⟩ := hh s _ (hρ x (hop x rfl) _ h1)
    exact ⟨v, Cl.of hv, fun o w ho => fin ρ v o w ho fun ty => hw P t ty c.argTypes w h2 (strTy hT t1 (by unfold isStr; rw [e1]))⟩
  · rename_i e e1
    obtain ⟨rfl, rfl⟩ := pu_inj h
    obtain ⟨r, hr, hh⟩ := eLenL_ok (tx := tx) hg
    refine ⟨r, hr, fun s ρ hρ => ?_⟩
    obtain ⟨v, hv, hw⟩ := hh s _ (hρ x (hop x rfl) _ h1)
    exact ⟨v, Cl.of hv, fun o w ho => fin ρ v o w ho fun ty => hw P t ty e c.argTypes w h2 (slTy' hT t1 e1)⟩
  · cases h
 · contradiction
 · cases h
end
end Go.Proofs.YtehpobojopmilaaGreat.Ev
namespace Go.Proofs.YtehpobojopmilaaGreat.Ev
set_option linter.unusedVariables false
set_option linter.unusedSimpArgs false
open Go
set_option maxRecDepth 4000
section
variable {P : Program} {TY : T TI} {tx : Tx} {L : T Ly} {A : List Al} {G : Option (Nat × Bool)} {fr : Nat} {κ : KN} {g : Nat → KN → Bool} {hs : Sh} {ld : Bool}
theorem cFields_ok {s : Sg} {ρ : Operand → Value} {n : Nat} {place : Nat → Option (Nat × Nat)} {fs : List (Nat × Nat × Bool)} (hp : ∀ i oz, fs[i]? = some oz → place i = some (oz.1, oz.2.1) ∧ oz.1 + oz.2.1 ≤ n ∧ (oz.2.2 = false → oz.2.1 = 1)) :
 ∀ (ps : List (Nat × Operand)) (l : List Pa), cFields tx L A G fs ps = some l → (∀ p ∈ ps, ∀ x, cOd tx L A G p.2 = some x → Cl tx s x.h (x.o fr) (ρ p.2)) → All2 (PartIs tx s fr n place) l (ps.map fun p => (p.1, ρ p.2))
 | [], l, h, _ => by
  rw [cFields] at h
  cases h
  exact .nil
 | (i, o) :: ps, l, h, hρ => by
  rw [cFields] at h
  obtain ⟨oz, h1, h⟩ := bnd_some h
  obtain ⟨x, hx, h2, h⟩ := bod_some h
  obtain ⟨h3, h⟩ := iff_some h
  obtain ⟨l', h4, h⟩ := bnd_some h
  simp only [str_eq] at h
  cases h
  rw [nth_eq] at h1
  obtain ⟨p1, p2, p3⟩ := hp i oz h1
  have k := hρ (i, o) List.mem_cons_self _ h2
  have e := shEq_eq h3
  rw [shF_eq] at e
  exact .cons ⟨oz.1, oz.2.1, oz.2.2, p1, rfl, rfl, p2, p3, by rw [← e]; exact k⟩ (cFields_ok hp ps l' h4 fun p hp' => hρ p (List.mem_cons_of_mem _ hp'))
theorem run_mapM_list {α β : Type} {f : α → Sem β} {g : α → β} {w : World} : ∀ (l : List α), (∀ x ∈ l, (f x).run P w = .ok (g x) w) → (l.mapM f).run P w = .ok (l.map g) w
 | [], _ => by simp [go_sem]
 | x :: l, h => by
  rw [List.mapM_cons, Sem.run_bind, h x List.mem_cons_self]
  simp only [Result.andThen_ok]
  rw [Sem.run_bind, run_mapM_list l fun y hy => h y (List.mem_cons_of_mem _ hy)]
  simp [go_sem]
theorem run_mapM_arr {α β : Type} {f : α → Sem β} {g : α → β} {w : World} (l : Array α) (h : ∀ x ∈ l.toList, (f x).run P w = .ok (g x) w) : (l.mapM f).run P w = .ok (l.map g) w := by
 rw [Array.mapM_eq_mapM_toList]
 simp [run_mapM_list l.toList h, go_sem]
 apply Array.ext'
 simp
def plc (P : Program) (f : Field) : Nat × Nat := (f.offset, P.cellsOf f.type)
theorem fld_info : ∀ (fl : List Field) (fs : List (Nat × Nat × Bool)), fldOf P fl = some fs → ∀ f ∈ fl, ∃ i, P.info? f.type = some i
 | [], _, _, f, hf => by cases hf
 | x :: fl, fs, h, f, hf => by
  rw [fldOf] at h
  obtain ⟨i, h1, h⟩ := bnd_some h
  obtain ⟨l, h2, h⟩ := bnd_some h
  rcases List.mem_cons.1 hf with rfl | hf
  · exact ⟨i, h1⟩
  · exact fld_info fl l h2 f hf
theorem run_zero {t : TypeId} {i : TypeInfo} {z : Value} {w : World} (h : P.info? t = some i) (hz : i.zero = some z) : (zeroValue t).run P w = .ok z w := by
 simp [zeroValue, typeInfo, h, hz, go_sem]
theorem build_ok (hT : ∀ t ti, TY.get t = some ti → tiOf P t = some ti) {t : TypeId} {ps : Array (Nat × Operand)} (h : cOp P TY tx L A G ld (.build t ps) = some ⟨.pu g, hs⟩) (hg : g fr κ = true) : ∃ r, κ r = true ∧ PuOk P tx L A G (.build t ps) hs fr r := by
 rw [cOp] at h
 obtain ⟨ti, t1, h⟩ := bnd_some h
 obtain ⟨fs, t2, h⟩ := bnd_some h
 obtain ⟨l, h1, h⟩ := bnd_some h
 obtain ⟨rfl, rfl⟩ := pu_inj h
 unfold eBuild at hg
 obtain ⟨r, hr, hh⟩ := parts_ok l _ hg
 refine ⟨r, hr, fun s ρ hρ => ?_⟩
 have hk : ti.k = .st fs := by
  unfold stOf at t2
  cases hk : ti.k with
  | st e' => rw [hk] at t2; cases t2; rfl
  | _ => rw [hk] at t2; cases t2
 obtain ⟨i, z, fl, g1, g2, g3, g4⟩ := tiOf_st (hT _ _ t1) hk
 have hpl : ∀ (j : Nat) (oz : Nat × Nat × Bool), fs[j]? = some oz → (fl.map (plc P))[j]? = some (oz.1, oz.2.1) ∧ oz.1 + oz.2.1 ≤ ti.sz ∧ (oz.2.2 = false → oz.2.1 = 1) := fun j oz hj => by
  obtain ⟨fd, i', k1, k2, k3, k4, k5, k6, k7⟩ := fld_at _ _ _ _ _ g3 g4 hj
  refine ⟨?_, k6, k7⟩
  rw [Array.getElem?_map, ← Array.getElem?_toList, k1]
  simp [plc, Program.cellsOf, k2, k3, k4]
 have hall := cFields_ok (s := s) (ρ := ρ) (fr := fr) hpl ps.toList l h1 fun p hp x hx => hρ p.2 (by simp [Op.operands]; exact ⟨p.1, by simpa using hp⟩) x hx
 obtain ⟨cs, f1, f2⟩ := hh tx s ti.sz _ _ z.cells hall (g1.rl tx s)
 refine ⟨.agg cs, ⟨fun _ => ⟨cs.toList, by simp, f2⟩, fun e => (by cases e), f2.2.1⟩, fun o w ho => ?_⟩
 unfold execOp
 rw [ho]
 refine run_v ?_
 unfold Instr.build
 rw [Sem.run_bind, run_zero g1.info g1.zero]
 simp only [Result.andThen_ok]
 rw [Sem.run_bind, run_underlying g2 w]
 simp only [Result.andThen_ok]
 have hm : (fl.mapM fun f => (do pure (f.offset, ← sizeOf f.type) : Sem (Nat × Nat))).run P w = .ok (fl.map (plc P)) w := run_mapM_arr fl fun f hf => by
  obtain ⟨i', hi'⟩ := fld_info _ _ g3 f hf
  simp [sizeOf, typeInfo, hi', plc, Program.cellsOf, go_sem]
 rw [Sem.run_bind, hm]
 simp only [Result.andThen_ok]
 have hl : (ps.map fun (i, x) => (i, ρ x)).toList = ps.toList.map fun p => (p.1, ρ p.2) := by simp
 rw [hl, f1]
 rfl
end
end Go.Proofs.YtehpobojopmilaaGreat.Ev
namespace Go.Proofs.YtehpobojopmilaaGreat.Ev
set_option linter.unusedVariables false
set_option linter.unusedSimpArgs false
open Go
set_option maxRecDepth 4000
section
variable {P : Program} {TY : T TI} {tx : Tx} {L : T Ly} {A : List Al} {G : Option (Nat × Bool)} {fr : Nat} {κ : KN} {g : Nat → KN → Bool} {hs : Sh}
theorem cOp_pu (hT : ∀ t ti, TY.get t = some ti → tiOf P t = some ti) {op : Op} (h : cOp P TY tx L A G false op = some ⟨.pu g, hs⟩) (hg : g fr κ = true) : ∃ r, κ r = true ∧ PuOk P tx L A G op hs fr r := by
 cases op with
 | pick c a b => exact pick_ok h hg
 | nilCheck x => exact nil_ok h hg
 | binOp op t x y t' => exact bin_ok h hg
 | unOp op t x => cases op with
  | not => exact not_ok h hg
  | _ => cases h
 | convert s d x => exact convert_ok hT h hg
 | slice t x lo hi m => cases m with
  | none => exact slice_ok hT h hg
  | some m => cases h
 | fieldAddr s x f => exact fieldAddr_ok hT h hg
 | field s x f => exact field_ok hT h hg
 | indexAddr t x i => exact indexAddr_ok hT h hg
 | index t x i => exact index_ok hT h hg
 | extract x i => exact extract_ok h hg
 | build t ps => exact build_ok hT h hg
 | move x =>
  rw [cOp] at h
  obtain ⟨o, hs, h1, h⟩ := bod_some h
  cases h
 | assign x =>
  rw [cOp] at h
  obtain ⟨o, hs, h1, h⟩ := bod_some h
  cases h
 | alloc t =>
  rw [cOp] at h
  obtain ⟨ti, h1, h⟩ := bnd_some h
  cases h
 | box t x =>
  rw [cOp] at h
  obtain ⟨ti, h1, h⟩ := bnd_some h
  obtain ⟨o, h2, h⟩ := bnd_some h
  obtain ⟨h3, h⟩ := iff_some h
  cases h
 | buildSlice t n ps =>
  rw [cOp] at h
  obtain ⟨h0, h⟩ := iff_some h
  obtain ⟨ti, h1, h⟩ := bnd_some h
  obtain ⟨e, h2, h⟩ := bnd_some h
  obtain ⟨te, h3, h⟩ := bnd_some h
  obtain ⟨l, h4, h⟩ := bnd_some h
  cases h
 | load t x =>
  rw [cOp] at h
  obtain ⟨ti, h1, h⟩ := bnd_some h
  cases e : adr tx L A G x with
  | none =>
   rw [e] at h
   obtain ⟨o, h2, h⟩ := boc_some h
   cases h
  | some p =>
   rw [e] at h
   obtain ⟨h2, h⟩ := iff_some h
   cases h
 | store t a x =>
  rw [cOp] at h
  obtain ⟨ti, h1, h⟩ := bnd_some h
  obtain ⟨o, h2, h⟩ := boc_some h
  obtain ⟨o', h3, h⟩ := bnd_some h
  obtain ⟨h4, h⟩ := iff_some h
  cases h
 | call c =>
  by_cases hc : c.callee = .builtin .len
  · exact len_ok hT hc h hg
  ·
   rw [cOp] at h
   unfold cCall at h
   split at h
   ·
    rename_i b e
    unfold cCallB at h
    split at h
    · exact absurd e hc
    ·
     obtain ⟨o1, h1, h⟩ := boc_some h
     obtain ⟨o2, h2, h⟩ := boc_some h
     obtain ⟨t1, h3, h⟩ := bnd_some h
     obtain ⟨t2, h4, h⟩ := bnd_some h
     obtain ⟨h5, h⟩ := iff_some h
     obtain ⟨ti, h6, h⟩ := bnd_some h
     obtain ⟨e1, h7, h⟩ := bnd_some h
     obtain ⟨te, h8, h⟩ := bnd_some h
     cases h
    · cases h
   · obtain ⟨fn, h1, h⟩ := bnd_some h
     obtain ⟨ts, h2, h⟩ := bnd_some h
     obtain ⟨rs, h3, h⟩ := bnd_some h
     obtain ⟨l, h4, h⟩ := bnd_some h
     cases h
   · cases h
 | _ => cases h
end
end Go.Proofs.YtehpobojopmilaaGreat.Ev
namespace Go.Proofs.YtehpobojopmilaaGreat.Ev
set_option linter.unusedVariables false
set_option linter.unusedSimpArgs false
open Go
set_option maxRecDepth 4000
def Kd (K : PO → Prop) (x : Option POS) : Prop := ∀ p, x = some p → K p.o
section
variable {K : PO → Prop}
theorem Kd.none : Kd K none := fun p h => by cases h
theorem Kd.some {o : PO} {h : Sh} (k : K o) : Kd K (some ⟨o, h⟩) := fun p e => by cases e; exact k
theorem Kd.pu {h : Sh} {g : Nat → KN → Bool} (k : K (.pu g)) : Kd K (pu h g) := Kd.some k
theorem Kd.bnd {α : Type} {x : Option α} {f : α → Option POS} (k : ∀ a, Kd K (f a)) : Kd K (bnd x f) := fun p h => by
 obtain ⟨a, _, h⟩ := bnd_some h
 exact k a p h
theorem Kd.bod {x : Option OdS} {f : Od → Sh → Option POS} (k : ∀ a b, Kd K (f a b)) : Kd K (bod x f) := fun p h => by
 obtain ⟨a, b, _, h⟩ := bod_some h
 exact k a b p h
theorem Kd.boc {tx : Tx} {L : T Ly} {A : List Al} {G : Option (Nat × Bool)} {o : Operand} {f : Od → Option POS} (k : ∀ a, Kd K (f a)) : Kd K (boc (cOc' tx L A G o) f) := fun p h => by
 obtain ⟨a, _, h⟩ := boc_some h
 exact k a p h
theorem Kd.iff {c : Bool} {x y : Option POS} (k : Kd K x) (l : Kd K y) : Kd K (iff' c x y) := by
 cases c
 · exact l
 · exact k
theorem Kd.str {n : Nat} {f : Nat → Option POS} (k : Kd K (f n)) : Kd K (str n f) := k
theorem Kd.opt {α : Type} {x : Option α} {a : Option POS} {f : α → Option POS} (k : Kd K a) (l : ∀ y, Kd K (f y)) : Kd K (Option.rec a f x) := by
 cases x
 · exact k
 · exact l _
end
def isMv (op : Op) : Prop := match op with | .move _ => True | .assign _ => True | .load _ _ => True | .alloc _ => True | _ => False
def isRd (op : Op) : Prop := match op with | .load _ _ => True | .convert _ _ _ => True | _ => False
def isNew (op : Op) : Prop := match op with | .alloc _ => True | .box _ _ => True | .buildSlice _ _ _ => True | _ => False
def isSto (op : Op) : Prop := match op with | .store _ _ _ => True | _ => False
def isApp (op : Op) : Prop := match op with | .call c => c.callee = .builtin .append | _ => False
def isCall (op : Op) : Prop := match op with | .call c => ∃ g, c.callee = .value (.func g) | _ => False
def KindOk (op : Op) (po : PO) : Prop := match po with
 | .mv _ => isMv op
 | .pu _ => True
 | .rd _ => isRd op
 | .al _ => isNew op
 | .st _ => isSto op
 | .ap _ => isApp op
 | .call _ _ => isCall op
section
variable {P : Program} {TY : T TI} {tx : Tx} {L : T Ly} {A : List Al} {G : Option (Nat × Bool)} {ld : Bool}
theorem cOp_kd (op : Op) : Kd (KindOk op) (cOp P TY tx L A G ld op) := by
 cases op with
 | call c =>
  rw [cOp]
  unfold cCall
  split
  ·
   rename_i b e
   unfold cCallB
   split
   · refine Kd.boc fun x => Kd.bnd fun t => Kd.bnd fun ti => ?_
     unfold cLen
     split
     · exact Kd.pu trivial
     · exact Kd.pu trivial
     · exact Kd.none
   · exact Kd.boc fun x => Kd.boc fun y => Kd.bnd fun t => Kd.bnd fun t' => Kd.iff (Kd.bnd fun ti => Kd.bnd fun e' => Kd.bnd fun te => Kd.some e) Kd.none
   · exact Kd.none
  · rename_i g e
    exact Kd.bnd fun fn => Kd.bnd fun ts => Kd.bnd fun rs => Kd.bnd fun l => Kd.some ⟨g, e⟩
  · exact Kd.none
 | convert s d x =>
  rw [cOp]
  refine Kd.bnd fun t1 => Kd.bnd fun t2 => Kd.boc fun x => ?_
  unfold cConv
  split
  · exact Kd.pu trivial
  · exact Kd.pu trivial
  · exact Kd.bnd fun te => Kd.iff (Kd.some trivial) Kd.none
  · exact Kd.none
 | unOp op t x => cases op with
  | not => rw [cOp]; exact Kd.boc fun x => Kd.pu trivial
  | _ => exact Kd.none
 | slice t x lo hi m => cases m with
  | none => rw [cOp]; exact Kd.boc fun x => Kd.bnd fun lo => Kd.bnd fun hi => Kd.bnd fun ti => Kd.iff (Kd.pu trivial) (Kd.bnd fun e => Kd.bnd fun te => Kd.pu trivial)
  | some m => exact Kd.none
 | move x => rw [cOp]; exact Kd.bod fun a b => Kd.some trivial
 | assign x => rw [cOp]; exact Kd.bod fun a b => Kd.some trivial
 | pick c a b => rw [cOp]; exact Kd.boc fun c => Kd.bod fun a _ => Kd.bod fun b _ => Kd.iff (Kd.pu trivial) Kd.none
 | alloc t => rw [cOp]; exact Kd.bnd fun ti => Kd.iff (Kd.iff Kd.none (Kd.some trivial)) (Kd.some trivial)
 | box t x => rw [cOp]; exact Kd.bnd fun ti => Kd.bnd fun x => Kd.iff (Kd.iff (Kd.iff Kd.none (Kd.pu trivial)) (Kd.some trivial)) Kd.none
 | build t ps => rw [cOp]; exact Kd.bnd fun ti => Kd.bnd fun fs => Kd.bnd fun l => Kd.pu trivial
 | buildSlice t n ps => rw [cOp]; exact Kd.iff (Kd.bnd fun ti => Kd.bnd fun e => Kd.bnd fun te => Kd.bnd fun l => Kd.str (Kd.str (Kd.str (Kd.some trivial)))) Kd.none
 | load t a => rw [cOp]; exact Kd.bnd fun ti => Kd.opt (Kd.boc fun a => Kd.str (Kd.some trivial)) fun p => Kd.iff (Kd.str (Kd.str (Kd.some trivial))) Kd.none
 | store t a x => rw [cOp]; exact Kd.bnd fun ti => Kd.boc fun a => Kd.bnd fun x => Kd.iff (Kd.str (Kd.some trivial)) Kd.none
 | nilCheck x => rw [cOp]; exact Kd.boc fun x => Kd.pu trivial
 | binOp op t x y t' => rw [cOp]; exact Kd.boc fun x => Kd.boc fun y => Kd.bnd fun f => Kd.pu trivial
 | fieldAddr s x f => rw [cOp]; exact Kd.bnd fun ti => Kd.bnd fun fs => Kd.bnd fun oz => Kd.iff (Kd.boc fun x => Kd.str (Kd.pu trivial)) Kd.none
 | field s x f => rw [cOp]; exact Kd.bnd fun ti => Kd.bnd fun fs => Kd.bnd fun oz => Kd.bnd fun x => Kd.iff (Kd.str (Kd.str (Kd.pu trivial))) Kd.none
 | indexAddr t x i => rw [cOp]; exact Kd.bnd fun ti => Kd.bnd fun e => Kd.bnd fun te => Kd.boc fun x => Kd.boc fun ix => Kd.pu trivial
 | index t x i => rw [cOp]; exact Kd.bnd fun ti => Kd.iff (Kd.boc fun x => Kd.boc fun ix => Kd.pu trivial) Kd.none
 | extract x i =>
  rw [cOp]
  refine Kd.bnd fun x => ?_
  split
  · exact Kd.bnd fun oz => Kd.str (Kd.str (Kd.pu trivial))
  · exact Kd.none
 | _ => exact Kd.none
end
end Go.Proofs.YtehpobojopmilaaGreat.Ev
namespace Go.Proofs.YtehpobojopmilaaGreat.Ev
set_option linter.unusedVariables false
set_option linter.unusedSimpArgs false
open Go
set_option maxRecDepth 4000
inductive Loc where
 | tm (t : Nat)
 | mt (id : Nat)
 | cl (id k : Nat)
 deriving DecidableEq
inductive Vl where
 | no
 | v (h : Sh) (c : Nat)
 | gp (g o : Nat)
 | mt (n ty es : Nat) (ex : Bool)
 | c (c : Nat)
def TmIs (tx : Tx) (s : Sg) (x : Vl) (v : Value) : Prop := match x with
 | .v h c => Cl tx s h c v
 | .gp g o => ∃ b k, s g = some (b, k) ∧ v = .pointer (some ⟨b, o, none⟩)
 | _ => True
structure BlkIs (tx : Tx) (s : Sg) (w : World) (X : Loc → Vl) (id n ty es : Nat) (ex : Bool) (b k : Nat) (cs : Array Value) : Prop where
 at_ : s id = some (b, k)
 blk : w.heap[b]? = some (.cells cs ty (0, 0))
 le : n ≤ cs.size
 cap : 1 ≤ es → cs.size = k * es
 one : es = 0 → cs.size = n
 exc : ex = true → cs.size = n
 oc : ∀ u ∈ cs, u.oneCell' = true
 cl : ∀ i c, i < n → X (.cl id i) = .c c → ∃ v, cs[i]? = some v ∧ RC tx s c v
structure RelH (tx : Tx) (s : Sg) (X : Loc → Vl) (w : World) : Prop where
 bl : ∀ id n ty es ex, X (.mt id) = .mt n ty es ex → ∃ b k cs, BlkIs tx s w X id n ty es ex b k cs
 inj : ∀ i j b k k', X (.mt i) ≠ .no → X (.mt j) ≠ .no → s i = some (b, k) → s j = some (b, k') → i = j
 lt : ∀ i b k, s i = some (b, k) → b < w.heap.size
structure Rel (tx : Tx) (nt : Nat) (s : Sg) (X : Loc → Vl) (a : Act) (w : World) : Prop where
 size : a.tmps.size = nt
 defers : a.defers = []
 tm : ∀ t, TmIs tx s (X (.tm t)) (a.tmps.getD t undef)
 h : RelH tx s X w
theorem TRl.mono {tx : Tx} {s s' : Sg} (hs : s.le s') : ∀ (l : List (Nat × Bool)) (c : Nat) (vs : List Value), TRl tx s l c vs → TRl tx s' l c vs
 | [], c, vs, h => h
 | (k, ag) :: r, c, vs, h => by
  obtain ⟨v, vs', rfl, h1, h2⟩ := h
  refine ⟨v, vs', rfl, ?_, TRl.mono hs r _ _ h2⟩
  cases ag with
  | false => exact ⟨h1.1, h1.2.mono hs⟩
  | true =>
   obtain ⟨cs, e, h3⟩ := h1
   exact ⟨cs, e, h3.1, h3.2.1, fun i hi => (h3.2.2 i hi).mono hs⟩
theorem VR.mono {tx : Tx} {s s' : Sg} {h : Sh} {c : Nat} {v : Value} (k : VR tx s h c v) (hs : s.le s') : VR tx s' h c v := by
 cases h with
 | c => exact RC.mono k hs
 | g n =>
  obtain ⟨cs, e, h3⟩ := k
  exact ⟨cs, e, h3.1, h3.2.1, fun i hi => (h3.2.2 i hi).mono hs⟩
 | t l =>
  obtain ⟨vs, e, h3⟩ := k
  exact ⟨vs, e, TRl.mono hs _ _ _ h3⟩
 | b _ => exact k
 | a _ => exact k
theorem Cl.mono {tx : Tx} {s s' : Sg} {h : Sh} {c : Nat} {v : Value} (k : Cl tx s h c v) (hs : s.le s') : Cl tx s' h c v := ⟨fun t => (k.1 t).mono hs, k.2⟩
theorem TmIs.mono {tx : Tx} {s s' : Sg} {x : Vl} {v : Value} (k : TmIs tx s x v) (hs : s.le s') : TmIs tx s' x v := by
 cases x with
 | v h c => exact Cl.mono k hs
 | gp g o => obtain ⟨b, c, h1, h2⟩ := k; exact ⟨b, c, hs _ _ h1, h2⟩
 | _ => trivial
theorem BlkIs.mono {tx : Tx} {s s' : Sg} {w w' : World} {X X' : Loc → Vl} {id n ty es b k : Nat} {ex : Bool} {cs : Array Value} (h : BlkIs tx s w X id n ty es ex b k cs) (hs : s.le s') (hw : w'.heap[b]? = w.heap[b]?) (hX : ∀ i c, i < n → X' (.cl id i) = .c c → X (.cl id i) = .c c) : BlkIs tx s' w' X' id n ty es ex b k cs :=
 ⟨hs _ _ h.at_, hw.trans h.blk, h.le, h.cap, h.one, h.exc, h.oc, fun i c hi hx => by
   obtain ⟨v, h1, h2⟩ := h.cl i c hi (hX i c hi hx)
   exact ⟨v, h1, h2.mono hs⟩⟩
theorem RelH.congr {tx : Tx} {s : Sg} {X X' : Loc → Vl} {w w' : World} (h : RelH tx s X w) (hm : ∀ i, X' (.mt i) = X (.mt i)) (hc : ∀ i k, X' (.cl i k) = X (.cl i k)) (hw : w'.heap = w.heap) : RelH tx s X' w' :=
 ⟨fun id n ty es ex hx => by
   rw [hm] at hx
   obtain ⟨b, k, cs, g⟩ := h.bl id n ty es ex hx
   exact ⟨b, k, cs, g.mono s.le_refl (by rw [hw]) fun i c _ hx => by rw [hc] at hx; exact hx⟩,
  fun i j b k k' hi hj => by rw [hm] at hi hj; exact h.inj i j b k k' hi hj, fun i b k hs => by rw [hw]; exact h.lt i b k hs⟩
def wD (dst : Option Nat) (l : Loc) : Prop := match dst with | some d => l = .tm d | none => False
theorem Rel.putTm {tx : Tx} {nt : Nat} {s : Sg} {Y X' : Loc → Vl} {a : Act} {w w' : World} (h : Rel tx nt s Y a w) {dst : Option Nat} {v : Value} (hv : ∀ d, dst = some d → d < nt ∧ TmIs tx s (X' (.tm d)) v) (hw : w'.heap = w.heap) : Rel tx nt s (over Y X' (wD dst)) (a.put dst v) w' := by
 have hm : ∀ i, over Y X' (wD dst) (.mt i) = Y (.mt i) := fun i => over_out (by cases dst <;> intro e <;> cases e)
 have hc : ∀ i k, over Y X' (wD dst) (.cl i k) = Y (.cl i k) := fun i k => over_out (by cases dst <;> intro e <;> cases e)
 refine ⟨by cases dst <;> simp [Act.put, h.size], by cases dst <;> exact h.defers, fun t => ?_, h.h.congr hm hc hw⟩
 cases dst with
 | none => rw [over_out (by intro e; cases e)]; exact h.tm t
 | some d =>
  obtain ⟨hd, hv⟩ := hv d rfl
  by_cases e : t = d
  ·
   subst e
   have e1 : over Y X' (wD (some t)) (.tm t) = X' (.tm t) := over_in (X := Y) (X' := X') (W := wD (some t)) rfl
   rw [e1]
   have : (a.put (some t) v).tmps.getD t undef = v := by
    simp only [Act.put, Array.getD_eq_getD_getElem?, Array.getElem?_setIfInBounds]
    simp [h.size, hd]
   rw [this]; exact hv
  · rw [over_out (by intro e'; cases e'; exact e rfl)]
    have : (a.put (some d) v).tmps.getD t undef = a.tmps.getD t undef := by
     simp only [Act.put, Array.getD_eq_getD_getElem?, Array.getElem?_setIfInBounds]
     rw [if_neg (fun e' => e e'.symm)]
    rw [this]; exact h.tm t
theorem StpOk.weak {tx : Tx} {nt : Nat} {P : Program} {ops : Array Oper} {Q : Exit → Act → World → Prop} {i : Nat} {X X' : Loc → Vl} {p p' : Stp Loc} (h : StpOk (Rel tx nt) P ops Q i X X' p)
 (hR : ∀ l, p.R l → p'.R l ∨ p'.W l) (hW : ∀ l, p.W l → p'.W l) (hX : ∀ l, p'.W l → ¬ p.W l → X' l = X l) (hL : ∀ j, p.L j → p'.L j) (hN : ∀ j, p.N j → p'.N j) : StpOk (Rel tx nt) P ops Q i X X' p' := by
 intro s Y a w hY hr hf K hK
 refine h s Y a w (fun l hl => hY l ?_) hr (fun j hj => hf j (hN j hj)) K fun s' a' w' h1 h2 => hK s' a' w' ?_ ?_
 · rcases hl with hl | hl
   · exact hR l hl
   · exact .inr (hW l hl)
 · exact h1.trans (Trs.refl (fun _ => False) (fun _ => False) s' w') (fun i hi => hL i (hi.resolve_right id)) fun i hi => hN i (hi.resolve_right id)
 ·
  have e : over Y X' p'.W = over Y X' p.W := by
   funext l
   by_cases h3 : p.W l
   · rw [over_in h3, over_in (hW l h3)]
   · rw [over_out h3]
     by_cases h4 : p'.W l
     · rw [over_in h4, hX l h4 h3]; exact (hY l (.inr h4)).symm
     · rw [over_out h4]
  rw [e]; exact h2
theorem wanted_is {tx : Tx} {s : Sg} {ops : Array Oper} {o : Oper} {a : Act} {j d c : Nat} {x : Bool} (hg : o.guard = some (j, x)) (hd : (ops[j]?).bind (·.dst) = some d) (h : Cl tx s .c c (a.tmps.getD d undef)) : Region.wanted o (yielded ops a.tmps) = Nat.beq c (bo x) := by
 unfold Region.wanted
 rw [hg]
 show (yielded ops a.tmps j == some x) = _
 unfold yielded
 rw [hd]
 show ((match a.tmps[d]? with | some (.bool b) => some b | _ => none) == some x) = _
 by_cases h0 : c % 8 = 0
 ·
  have hu := h.2.1 rfl h0
  have e : Nat.beq c (bo x) = false := by
   cases hb : Nat.beq c (bo x) with
   | false => rfl
   | true => have := beq_t hb; cases x <;> simp [bo] at this <;> omega
  rw [e]
  rw [Array.getD_eq_getD_getElem?] at hu
  cases h1 : a.tmps[d]? with
  | none => rfl
  | some v => rw [h1] at hu; have hu : v = undef := hu; subst hu; rfl
 ·
  have hr := h.rc h0
  rw [Array.getD_eq_getD_getElem?] at hr
  cases h1 : a.tmps[d]? with
  | none =>
   rw [h1] at hr
   have hr : RC tx s c undef := hr
   cases hr
  | some v =>
   rw [h1] at hr
   have hr : RC tx s c v := hr
   by_cases h2 : c % 8 = 2
   · obtain ⟨y, rfl, rfl⟩ := hr.t2 h2
     cases y <;> cases x <;> rfl
   ·
    have e : Nat.beq c (bo x) = false := by
     cases hb : Nat.beq c (bo x) with
     | false => rfl
     | true => have := beq_t hb; cases x <;> simp [bo] at this <;> omega
    rw [e]
    cases hr with
    | b y => cases y <;> simp [bo] at h2
    | _ => rfl
theorem wanted_none {ops : Array Oper} {o : Oper} {a : Act} (hg : o.guard = none) : Region.wanted o (yielded ops a.tmps) = true := by
 unfold Region.wanted; rw [hg]
end Go.Proofs.YtehpobojopmilaaGreat.Ev
namespace Go.Proofs.YtehpobojopmilaaGreat.Ev
set_option linter.unusedVariables false
set_option linter.unusedSimpArgs false
open Go
set_option maxRecDepth 4000
theorem setCells_at (b : Nat) : ∀ (vs : List Value) (o : Nat) (w : World) (cs : Array Value) (ty : TypeId) (fz : Nat × Nat), w.heap[b]? = some (.cells cs ty fz) → ∃ cs', (w.setCells b o vs).heap[b]? = some (.cells cs' ty fz) ∧ cs'.size = cs.size ∧ (∀ i, cs'[i]? = if o ≤ i ∧ i < o + vs.length ∧ i < cs.size then vs[i - o]? else cs[i]?) ∧
 (w.setCells b o vs).os = w.os ∧ (w.setCells b o vs).tape = w.tape ∧ (w.setCells b o vs).output = w.output ∧ (w.setCells b o vs).heap.size = w.heap.size ∧ ∀ c, c ≠ b → (w.setCells b o vs).heap[c]? = w.heap[c]?
 | [], o, w, cs, ty, fz, h => ⟨cs, h, rfl, fun i => by rw [if_neg (by simp; omega)], rfl, rfl, rfl, rfl, fun _ _ => rfl⟩
 | v :: r, o, w, cs, ty, fz, h => by
  have h1 : (w.setCell ⟨b, o, none⟩ v).heap[b]? = some (.cells (cs.setIfInBounds o v) ty fz) := by
   simp only [World.setCell, Array.getElem?_modify, h]
   simp
  obtain ⟨cs', h2, h3, h4, h5, h6, h7, h8, h9⟩ := setCells_at b r (o + 1) _ _ _ _ h1
  refine ⟨cs', h2, by rw [h3]; simp, fun i => ?_, h5.trans rfl, h6.trans rfl, h7.trans rfl, h8.trans (by simp [World.setCell]), fun c hc => (h9 c hc).trans ?_⟩
  ·
   rw [h4 i, Array.getElem?_setIfInBounds]
   simp only [Array.size_setIfInBounds, List.length_cons]
   by_cases e : o = i
   · subst e
     rw [if_neg (by omega), if_pos rfl]
     by_cases hs : o < cs.size
     · rw [if_pos hs, if_pos (by omega)]; simp
     · rw [if_neg hs, if_neg (by omega), Array.getElem?_eq_none (by omega)]
   · rw [if_neg e]
     by_cases h' : o + 1 ≤ i ∧ i < o + 1 + r.length ∧ i < cs.size
     · rw [if_pos h', if_pos (by omega), show i - o = (i - (o + 1)) + 1 by omega, List.getElem?_cons_succ]
     · rw [if_neg h', if_neg (by omega)]
  · simp only [World.setCell, Array.getElem?_modify]
    rw [if_neg (fun e => hc e.symm)]
section
variable {tx : Tx} {s s' : Sg} {X X' : Loc → Vl} {w w' : World}
theorem RelH.alloc (h : RelH tx s X w) {g n ty es k : Nat} {ex : Bool} {cs : Array Value} (hg : s g = none) (hm : ∀ i, i ≠ g → X' (.mt i) = X (.mt i)) (hc : ∀ i q, i ≠ g → X' (.cl i q) = X (.cl i q)) (h1 : X' (.mt g) = .mt n ty es ex)
 (le : n ≤ cs.size) (cap : 1 ≤ es → cs.size = k * es) (one : es = 0 → cs.size = n) (exc : ex = true → cs.size = n) (oc : ∀ u ∈ cs, u.oneCell' = true)
 (h2 : ∀ i c, i < n → X' (.cl g i) = .c c → ∃ v, cs[i]? = some v ∧ RC tx s c v) {w1 : World} (e1 : w1.heap = w.heap) :
 RelH tx (fun i => if i = g then some (w.heap.size, k) else s i) X' (w1.alloc (.cells cs ty)) := by
 have hs : s.le (fun i => if i = g then some (w.heap.size, k) else s i) := fun i x hx => by
  show (if i = g then _ else s i) = _
  rw [if_neg (fun e => by rw [e, hg] at hx; cases hx)]; exact hx
 have hw : ∀ b, b < w.heap.size → (w1.alloc (.cells cs ty)).heap[b]? = w.heap[b]? := fun b hb => by
  simp only [World.alloc, e1]
  rw [Array.getElem?_push_lt hb, Array.getElem?_eq_getElem hb]
 have hl : ∀ i b k, s i = some (b, k) → b < w.heap.size := h.lt
 refine ⟨fun id m t e x hx => ?_, fun i j b q q' hi hj hsi hsj => ?_, fun i b q hsi => ?_⟩
 ·
  by_cases eg : id = g
  ·
   subst eg
   rw [h1] at hx
   cases hx
   refine ⟨w.heap.size, k, cs, ⟨if_pos rfl, ?_, le, cap, one, exc, oc, fun i c hi hx => ?_⟩⟩
   · simp only [World.alloc, e1]; rw [Array.getElem?_push_size]
   · obtain ⟨v, h3, h4⟩ := h2 i c hi hx
     exact ⟨v, h3, h4.mono hs⟩
  · rw [hm id eg] at hx
    obtain ⟨b, q, cs', g'⟩ := h.bl id m t e x hx
    exact ⟨b, q, cs', g'.mono hs (hw b (hl _ _ _ g'.at_)) fun i c _ hx => by rw [hc id i eg] at hx; exact hx⟩
 ·
  by_cases e1 : i = g <;> by_cases e2 : j = g
  · rw [e1, e2]
  · rw [if_pos e1] at hsi; rw [if_neg e2] at hsj
    cases hsi
    have := hl _ _ _ hsj
    omega
  · rw [if_neg e1] at hsi; rw [if_pos e2] at hsj
    cases hsj
    have := hl _ _ _ hsi
    omega
  · rw [if_neg e1] at hsi; rw [if_neg e2] at hsj
    rw [hm i e1] at hi; rw [hm j e2] at hj
    exact h.inj i j b q q' hi hj hsi hsj
 · have : (w1.alloc (.cells cs ty)).heap.size = w.heap.size + 1 := by simp [World.alloc, e1]
   rw [this]
   by_cases e1 : i = g
   · rw [if_pos e1] at hsi; cases hsi; omega
   · rw [if_neg e1] at hsi; have := hl _ _ _ hsi; omega
theorem Trs.alloc {L N : Nat → Prop} {g k : Nat} {o : Obj} (hg : s g = none) (hN : N g) {w1 : World} (e1 : w1.heap = w.heap) (e2 : w1.os = w.os) (e3 : w1.tape = w.tape) (e4 : w1.output = w.output) : Trs L N s w (fun i => if i = g then Option.some (w.heap.size, k) else s i) (w1.alloc o) := by
 refine ⟨fun i x hx => ?_, fun i x hx => ?_, fun i b c hx h0 => ?_, e2, e3, e4, by simp [World.alloc, e1], fun b hb _ => ?_⟩
 · show (if i = g then _ else s i) = _
   rw [if_neg (fun e => by rw [e, hg] at hx; cases hx)]; exact hx
 · by_cases e : i = g
   · subst e; exact .inr ⟨hg, hN⟩
   · rw [if_neg e] at hx; exact .inl hx
 · by_cases e : i = g
   · rw [if_pos e] at hx; cases hx; exact .inl (Nat.le_refl _)
   · rw [if_neg e, h0] at hx; cases hx
 · simp only [World.alloc, e1]
   rw [Array.getElem?_push_lt hb, Array.getElem?_eq_getElem hb]
theorem RelH.store (h : RelH tx s X w) {id n ty es b k o : Nat} {ex : Bool} {cs : Array Value} {vs : List Value} (hb : BlkIs tx s w X id n ty es ex b k cs) (hl : X (.mt id) = .mt n ty es ex) (ho : o + vs.length ≤ n) (hm : ∀ i, X' (.mt i) = X (.mt i)) (hc : ∀ i q, ¬ (i = id ∧ o ≤ q ∧ q < o + vs.length) → X' (.cl i q) = X (.cl i q))
 (h2 : ∀ i c, i < vs.length → X' (.cl id (o + i)) = .c c → ∃ v, vs[i]? = some v ∧ RC tx s c v) (h1 : ∀ u ∈ vs, u.oneCell' = true) : RelH tx s X' (w.setCells b o vs) := by
 obtain ⟨cs', g1, g2, g3, _, _, _, g4, g5⟩ := setCells_at b vs o w cs ty (0, 0) hb.blk
 refine ⟨fun i m t e x hx => ?_, fun i j b q q' hi hj hsi hsj => ?_, fun i b q hsi => by rw [g4]; exact h.lt i b q hsi⟩
 ·
  rw [hm] at hx
  by_cases e1 : i = id
  ·
   subst e1
   rw [hl] at hx
   cases hx
   refine ⟨b, k, cs', hb.at_, g1, by rw [g2]; exact hb.le, fun h => by rw [g2]; exact hb.cap h, fun h => by rw [g2]; exact hb.one h, fun h => by rw [g2]; exact hb.exc h, fun u hu => ?_, fun i' c hi hx => ?_⟩
   · obtain ⟨j, hj, e⟩ := Array.getElem_of_mem hu
     have e3 := g3 j
     rw [Array.getElem?_eq_getElem hj, e] at e3
     by_cases hin : o ≤ j ∧ j < o + vs.length ∧ j < cs.size
     · rw [if_pos hin] at e3; exact h1 u (List.mem_of_getElem? e3.symm)
     · rw [if_neg hin] at e3; exact hb.oc u (Array.mem_of_getElem? e3.symm)
   ·
    rw [g3]
    have := hb.le
    by_cases hin : o ≤ i' ∧ i' < o + vs.length ∧ i' < cs.size
    · rw [if_pos hin]
      refine h2 (i' - o) c (by omega) ?_
      rw [show o + (i' - o) = i' by omega]; exact hx
    · rw [if_neg hin]
      rw [hc _ _ (by omega)] at hx
      exact hb.cl i' c hi hx
  · obtain ⟨b', q, cs'', g'⟩ := h.bl i m t e x hx
    have hne : b' ≠ b := fun e2 => e1 (h.inj i id b q k (by rw [hx]; intro h; cases h) (by rw [hl]; intro h; cases h) (by rw [← e2]; exact g'.at_) hb.at_)
    exact ⟨b', q, cs'', g'.mono s.le_refl (g5 b' hne) fun i' c _ hx => by rw [hc _ _ (fun hh => e1 hh.1)] at hx; exact hx⟩
 · rw [hm] at hi hj; exact h.inj i j b q q' hi hj hsi hsj
theorem Trs.store {L N : Nat → Prop} {id b k o ty : Nat} {cs : Array Value} {vs : List Value} {fz : Nat × Nat} (hb : w.heap[b]? = Option.some (Obj.cells cs ty fz)) (hs : s id = Option.some (b, k)) (hL : L id) : Trs L N s w s (w.setCells b o vs) := by
 obtain ⟨cs', g1, g2, g3, g6, g7, g8, g4, g5⟩ := setCells_at b vs o w cs ty fz hb
 refine ⟨s.le_refl, fun _ _ h => .inl h, fun i b c h h0 => (by rw [h0] at h; cases h), g6, g7, g8, by rw [g4]; exact Nat.le_refl _, fun c hc hn => g5 c fun e => ?_⟩
 subst e
 exact hn id k hL hs
end
theorem Rel.mk' {tx : Tx} {nt : Nat} {s s' : Sg} {Y Z : Loc → Vl} {a : Act} {w w' : World} {dst : Option Nat} {v : Value} (h : Rel tx nt s Y a w) (hs : s.le s') (hH : RelH tx s' Z w') (hZ : ∀ t, dst ≠ some t → Z (.tm t) = Y (.tm t)) (hv : ∀ d, dst = some d → d < nt ∧ TmIs tx s' (Z (.tm d)) v) : Rel tx nt s' Z (a.put dst v) w' := by
 refine ⟨by cases dst <;> simp [Act.put, h.size], by cases dst <;> exact h.defers, fun t => ?_, hH⟩
 by_cases e : dst = some t
 ·
  subst e
  obtain ⟨hd, hv⟩ := hv t rfl
  have : (a.put (some t) v).tmps.getD t undef = v := by
   simp only [Act.put, Array.getD_eq_getD_getElem?, Array.getElem?_setIfInBounds]
   simp [h.size, hd]
  rw [this]; exact hv
 ·
  rw [hZ t e]
  have : (a.put dst v).tmps.getD t undef = a.tmps.getD t undef := by
   cases dst with
   | none => rfl
   | some d =>
    simp only [Act.put, Array.getD_eq_getD_getElem?, Array.getElem?_setIfInBounds]
    rw [if_neg (fun e' => e (by rw [e']))]
  rw [this]; exact (h.tm t).mono hs
end Go.Proofs.YtehpobojopmilaaGreat.Ev
