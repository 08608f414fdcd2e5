/- A table of types, checked against the program's own. -/
import Derived.Test.YtdaibgpceldbdaaGreatDoorAmSnd11
namespace Go.Am
open Go

def zrel : AV → Value → Bool
  | .bool a, .bool b => a == b
  | .int k n, .int k' m => decide (k = k') && n == m
  | .str s, .string b => b.data.toList.isEmpty && s.len == 0 && s.val == 0
  | .nilp, .pointer none => true
  | .nils, .slice none 0 0 => true
  | .nilm, .map none => true
  | .nilf, .nilFunc => true
  | .nili, .nilIface => true
  | .junk, _ => true
  | _, _ => false
def zrels : List AV → List Value → Bool
  | [], [] => true
  | a :: as, v :: vs => zrel a v && zrels as vs
  | _, _ => false
theorem zrel_ok {μ : Mu} {a : AV} {v : Value} (h : zrel a v = true) : a.rel μ v := by
  unfold zrel at h
  split at h <;> simp only [AV.rel, Bool.and_eq_true, beq_iff_eq, decide_eq_true_eq, Bool.false_eq_true] at h ⊢
  · rw [h]
  · rw [h.1, h.2]
  · rename_i s b
    refine ⟨b, rfl, ?_⟩
    obtain ⟨⟨h1, h2⟩, h3⟩ := h
    rw [List.isEmpty_iff] at h1
    rw [h1]
    cases s; simp only at h2 h3; subst h2 h3; rfl
theorem zrels_ok {μ : Mu} : ∀ {as : List AV} {vs : List Value}, zrels as vs = true → AV.relL μ as vs
  | [], [], _ => AV.relL_nil.2 rfl
  | a :: as, v :: vs, h => by
    simp only [zrels, Bool.and_eq_true] at h
    exact AV.relL_cons.2 ⟨v, vs, rfl, zrel_ok h.1, zrels_ok h.2⟩
  | [], _ :: _, h => by cases h
  | _ :: _, [], h => by cases h

def kdB : Kd → TypeDesc → Bool
  | .bool, .bool => true
  | .int k, .int k' => decide (k = k')
  | .str, .string => true
  | .unsafe_, .unsafePointer => true
  | .ptr e, .pointer e' => Nat.beq e e'
  | .slice e, .slice e' => Nat.beq e e'
  | .arr n e, .array n' e' => Nat.beq n n' && Nat.beq e e'
  | .struct fs, .struct fields => decide (fs = fields.toList.map (fun f => (f.offset, f.type)))
  | .map k e, .map k' e' => Nat.beq k k' && Nat.beq e e'
  | .func, .func _ _ _ => true
  | .iface, .interface _ => true
  | _, _ => false
theorem kdB_ok {k : Kd} {d : TypeDesc} (h : kdB k d = true) : KdRel k d := by
  unfold kdB at h
  split at h <;> simp only [Bool.and_eq_true, Nat.beq_eq, decide_eq_true_eq, Bool.false_eq_true] at h
  · rfl
  · rw [h]; rfl
  · rfl
  · rfl
  · rw [h]; rfl
  · rw [h]; rfl
  · rw [h.1, h.2]; rfl
  · exact ⟨_, rfl, h⟩
  · rw [h.1, h.2]; rfl
  · exact ⟨_, _, _, rfl⟩
  · exact ⟨_, rfl⟩

def aggB : Value → Bool
  | .agg _ => true
  | _ => false
def chkInfo (ti : TI) (i : TypeInfo) : Bool :=
  i.size == ti.size && i.bytes == ti.bytes && (match i.zero with
    | some z => zrels ti.zero z.cells.toList && (ti.kd.agg == aggB z)
    | none => false)
def chkEq (P : Program) (t : Nat) (d : TypeDesc) : Bool :=
  !(P.eqGuardType P.depth t) && !(P.stoodInHeld t) && (match d with
    | .struct fs => fs.toList.all fun f => f.name != "_"
    | _ => true)
def chkTI (P : Program) (t : Nat) (ti : TI) : Bool :=
  match P.info? t, P.underlying t with
  | some i, some d => chkInfo ti i && kdB ti.kd d && (!ti.eqp || chkEq P t d)
  | _, _ => false
theorem chkTI_ok {P : Program} {t : Nat} {ti : TI} (h : chkTI P t ti = true) : TIRel P t ti := by
  unfold chkTI at h
  split at h
  · rename_i i d hi hd
    simp only [Bool.and_eq_true] at h
    obtain ⟨⟨h1, h2⟩, h3⟩ := h
    unfold chkInfo at h1
    simp only [Bool.and_eq_true, beq_iff_eq] at h1
    obtain ⟨⟨s1, s2⟩, s3⟩ := h1
    split at s3
    · rename_i z hz
      simp only [Bool.and_eq_true, beq_iff_eq] at s3
      refine ⟨⟨i, z, hi, s1, s2, hz, zrels_ok s3.1, fun ha => ?_⟩, ⟨d, hd, kdB_ok h2⟩, fun ha i' z' hi' hz' => ?_, fun he => ?_⟩
      · have q := s3.2.symm; rw [ha] at q
        cases z <;> simp only [aggB, Bool.false_eq_true] at q
        exact ⟨_, rfl⟩
      · rw [hi] at hi'; injection hi' with hi'; subst hi'
        rw [hz] at hz'; injection hz' with hz'; subst hz'
        have q := s3.2.symm; rw [ha] at q
        cases z <;> first | rfl | (simp only [aggB, Bool.true_eq_false] at q)
      · rw [he] at h3
        simp only [Bool.not_true, Bool.false_or] at h3
        unfold chkEq at h3
        simp only [Bool.and_eq_true, Bool.not_eq_true'] at h3
        refine ⟨h3.1.1, h3.1.2, fun fs hfs f hf => ?_⟩
        rw [hd] at hfs; injection hfs with hfs; subst hfs
        have := h3.2
        simp only [List.all_eq_true, bne_iff_ne, ne_eq] at this
        exact this f (by simpa using hf)
    · cases s3
  · cases h
/-- from row k on -/
def chkL (P : Program) : Nat → List TI → Bool
  | _, [] => true
  | k, ti :: r => (!ti.kd.known || chkTI P k ti) && chkL P (k + 1) r
noncomputable def tyOf (L : List TI) : Ty := fun t => lget ⟨.other, 0, 0, [], false⟩ L t
theorem chkL_ok {P : Program} : ∀ (L : List TI) (k t : Nat), chkL P k L = true → (lget ⟨.other, 0, 0, [], false⟩ L t).kd.known = true → TIRel P (k + t) (lget ⟨.other, 0, 0, [], false⟩ L t)
  | [], k, t, _, h => by rw [lget_eq] at h; simp [Kd.known] at h
  | ti :: r, k, 0, h, hk => by
    simp only [chkL, Bool.and_eq_true, Bool.or_eq_true, Bool.not_eq_true'] at h
    rcases h.1 with q | q
    · have : ti.kd.known = true := hk
      rw [this] at q; cases q
    · exact chkTI_ok q
  | ti :: r, k, t + 1, h, hk => by
    simp only [chkL, Bool.and_eq_true] at h
    have := chkL_ok r (k + 1) t h.2 hk
    rwa [show k + 1 + t = k + (t + 1) from by omega] at this
theorem tyOk_of {P : Program} {L : List TI} (h : chkL P 0 L = true) : TyOk P (tyOf L) := fun t ht => by
  have := chkL_ok L 0 t h ht
  rwa [Nat.zero_add] at this
end Go.Am
