/- The pure operations are sound, second part: '==', the other binary operations, unary ones, conversions, struct values. -/
import Derived.Test.YtdaibgpceldbdaaGreatDoorAmOpP
namespace Go.Am
open Go
section
variable {P : Program} {T : Ty} (hT : TyOk P T) {μ : Mu}
include hT

omit hT in
theorem beq_bool (a b : Bool) : (Bool.rec (Bool.not b) b a : Bool) = (a == b) := by cases a <;> cases b <;> rfl

theorem eqFs_ok (d : Nat) (xs ys : Array Value) (f : Nat) (ih : ∀ t a b r x y, eqAV T f t a b = some r → AV.rel μ a x → AV.rel μ b y → ∀ w, (Op.equalIn d t x y).run P w = .ok r w) {as bs : List AV} (ha : AV.relL μ as xs.toList) (hb : AV.relL μ bs ys.toList) :
    ∀ (fields : List Field) (r : Bool), (∀ g ∈ fields, g.name ≠ "_") → eqAV.eqFs T (eqAV T f) as bs (fields.map fun g => (g.offset, g.type)) = some r → ∀ w, (Op.eqFields d xs ys fields).run P w = .ok r w
  | [], r, _, h, w => by simp [eqAV.eqFs] at h; subst h; rfl
  | g :: fields, r, hn, h, w => by
    simp only [List.map_cons, eqAV.eqFs] at h
    split at h
    · rename_i a b h1 h2
      have hk : (T g.type).kd.known = true := by
        cases hkd : (T g.type).kd <;> try rfl
        exfalso
        split at h
        · rename_i he; cases f with
          | zero => simp [eqAV] at he
          | succ f => simp [eqAV, hkd] at he
        · rename_i he; cases f with
          | zero => simp [eqAV] at he
          | succ f => simp [eqAV, hkd] at he
        · cases h
      obtain ⟨x, hx, hxr⟩ := part_ok hT hk h1 ha
      obtain ⟨y, hy, hyr⟩ := part_ok hT hk h2 hb
      have hname : g.name ≠ "_" := hn g (by simp)
      simp only [Op.eqFields, hname, ne_eq, not_false_eq_true, if_true, Sem.run_bind, hx w, hy w, Result.andThen_ok]
      split at h
      · rename_i he
        rw [ih _ _ _ _ _ _ he hxr hyr w]
        simp only [Result.andThen_ok, Bool.not_true, Bool.false_eq_true, if_false]
        exact eqFs_ok d xs ys f ih ha hb fields r (fun g' hg => hn g' (by simp [hg])) h w
      · rename_i he
        injection h with h; subst h
        rw [ih _ _ _ _ _ _ he hxr hyr w]
        simp
      · cases h
    · cases h

theorem eqAV_ok : ∀ (f d : Nat), f ≤ d → ∀ t a b r x y, eqAV T f t a b = some r → AV.rel μ a x → AV.rel μ b y → ∀ w, (Op.equalIn d t x y).run P w = .ok r w
  | 0, d, _, t, a, b, r, x, y, h, _, _, w => by simp [eqAV] at h
  | f + 1, 0, hd, _, _, _, _, _, _, _, _, _, _ => by omega
  | f + 1, d + 1, hd, t, a, b, r, x, y, h, ha, hb, w => by
    unfold eqAV at h
    split at h
    case h_1 a b hk =>
      obtain ⟨_, h1, rfl⟩ := und_of hT hk rfl
      injection h with h; subst h; simp only [AV.rel] at ha hb; subst ha hb
      simp [Op.equalIn, run_underlying h1, beq_bool]
    case h_2 k0 k a k' b hk =>
      obtain ⟨_, h1, rfl⟩ := und_of hT hk rfl
      rw [Str.brec] at h; split at h
      · rename_i he; rw [keq_iff] at he; subst he
        injection h with h; subst h; simp only [AV.rel] at ha hb; subst ha hb
        simp [Op.equalIn, run_underlying h1, eqI_eq]
      · cases h
    case h_3 a b hk =>
      obtain ⟨_, h1, rfl⟩ := und_of hT hk rfl
      injection h with h; subst h; simp only [AV.rel] at ha hb
      obtain ⟨s, rfl, rfl⟩ := ha; obtain ⟨u, rfl, rfl⟩ := hb
      rw [Str.beq_of]
      simp [Op.equalIn, run_underlying h1, beq_toListBytes, ByteArray.toList_eq]
    case h_19 e i a j b hk =>
      obtain ⟨_, h1, rfl⟩ := und_of hT hk rfl
      split at h
      · rename_i hc
        have hc : ((T e).kd.known && (Nat.ble 1 (T e).size && Nat.beq i j)) = true := hc
        simp only [Bool.and_eq_true, ble_iff, Nat.beq_eq] at hc
        obtain ⟨hk, hz, rfl⟩ := hc
        injection h with h; subst h; simp only [AV.rel] at ha hb
        obtain ⟨c, q, hm, rfl⟩ := ha; obtain ⟨c', q', hm', rfl⟩ := hb
        rw [hm] at hm'; injection hm' with hm'; injection hm' with e1 e2; subst e1 e2
        have hz' : ¬ (T e).size = 0 := by omega
        have hbe : (({ block := c, off := q + a, spot := none } : Addr) == { block := c, off := q + b, spot := none }) = Nat.beq a b := by
          rw [Bool.eq_iff_iff, beq_iff_eq, Nat.beq_eq]
          constructor
          · intro h; injection h with _ h; omega
          · intro h; rw [h]
        simp [Op.equalIn, run_underlying h1, size_run hT hk, hz', sameAddr, hbe]
      · cases h
    case h_20 fs xs ys hk =>
      obtain ⟨_, h1, fields, rfl, h3⟩ := und_of hT hk rfl
      split at h
      · rename_i he
        obtain ⟨e1, e2, e3⟩ := (hT t (by rw [hk]; rfl)).eqp he
        simp only [AV.rel] at ha hb
        obtain ⟨vs, rfl, ha⟩ := ha; obtain ⟨us, rfl, hb⟩ := hb
        have hfo : P.fieldsOf t = fields := by simp [Program.fieldsOf, h1]
        rw [run_equalIn_struct w d t vs us (by rw [h1, hfo]) e2, hfo]
        rw [h3] at h
        exact eqFs_ok hT d vs us f (fun t a b r x y h ha hb w => eqAV_ok f d (by omega) t a b r x y h ha hb w) ha hb _ _ (fun g hg => e3 fields h1 g (by simpa using hg)) h w
      · cases h
    case h_21 => cases h
    all_goals
      rename_i hk
      first
        | obtain ⟨_, h1, rfl⟩ := und_of hT hk rfl
        | obtain ⟨_, h1, _, rfl⟩ := und_of hT hk rfl
        | obtain ⟨_, h1, _, _, _, rfl⟩ := und_of hT hk rfl
      injection h with h; subst h; simp only [AV.rel] at ha hb
      first
        | subst ha
        | (obtain ⟨_, _, _, rfl⟩ := ha)
        | (obtain ⟨_, rfl, _⟩ := ha)
        | (obtain ⟨_, _, rfl, _⟩ := ha)
        | (obtain ⟨_, _, rfl⟩ := ha)
        | (obtain ⟨_, _, _, _, _, rfl, _⟩ := ha)
      first
        | subst hb
        | (obtain ⟨_, _, _, rfl⟩ := hb)
        | (obtain ⟨_, rfl, _⟩ := hb)
        | (obtain ⟨_, _, rfl, _⟩ := hb)
        | (obtain ⟨_, _, rfl⟩ := hb)
        | (obtain ⟨_, _, _, _, _, rfl, _⟩ := hb)
      simp [Op.equalIn, run_underlying h1]
end
end Go.Am
