/- The law MvccReads, told: over every key and value it answers true. No condition. -/
import Derived.Test.YtlbigopkplckaaaRdQ
namespace Go.Proofs.Ytlbigopkplckaaa
open Go Go.Am
set_option linter.all false
set_option maxRecDepth 100000
theorem eqCe (key val : Str) (w l t : Int) (del : Bool) : aBin ty .eql 31 false (ceAV key w l t val del) (ceAV key w l t val del) = some (.bool true) := by
  have : aBin ty .eql 31 false (ceAV key w l t val del) (ceAV key w l t val del) = Option.map AV.bool (match some (Str.beq key key) with | some true => (match (match some (eqI w w) with | some true => (match some (eqI l l) with | some true => (match some (eqI t t) with | some true => some true | some false => some false | none => none) | some false => some false | none => none) | some false => some false | none => none) with | some true => (match some (Str.beq val val) with | some true => (match some (Bool.rec (Bool.not del) del del : Bool) with | some true => some true | some false => some false | none => none) | some false => some false | none => none) | some false => some false | none => none) | some false => some false | none => none) := rfl
  rw [this]; simp only [beq_self, eqI_refl]; cases del <;> rfl
theorem eqIn (key anchor val : Str) (n m bw bl bt w l t : Int) (del : Bool) : aBin ty .eql 41 false (inAV key n m bw bl bt anchor w l t val del) (inAV key n m bw bl bt anchor w l t val del) = some (.bool true) := by
  have : aBin ty .eql 41 false (inAV key n m bw bl bt anchor w l t val del) (inAV key n m bw bl bt anchor w l t val del) = Option.map AV.bool (match some (Str.beq key key) with | some true => (match (match some (eqI n n) with | some true => (match some (eqI m m) with | some true => some true | some false => some false | none => none) | some false => some false | none => none) with | some true => (match (match some (eqI bw bw) with | some true => (match some (eqI bl bl) with | some true => (match some (eqI bt bt) with | some true => some true | some false => some false | none => none) | some false => some false | none => none) | some false => some false | none => none) with | some true => (match some (Str.beq anchor anchor) with | some true => (match (match some (eqI w w) with | some true => (match some (eqI l l) with | some true => (match some (eqI t t) with | some true => some true | some false => some false | none => none) | some false => some false | none => none) | some false => some false | none => none) with | some true => (match some (Str.beq val val) with | some true => (match some (Bool.rec (Bool.not del) del del : Bool) with | some true => some true | some false => some false | none => none) | some false => some false | none => none) | some false => some false | none => none) | some false => some false | none => none) | some false => some false | none => none) | some false => some false | none => none) | some false => some false | none => none) := rfl
  rw [this]; simp only [beq_self, eqI_refl]; cases del <;> rfl

theorem kb_inj : ∀ {a b : List (List UInt8)} {x y : List UInt8}, a.length = b.length → keyB a ++ x = keyB b ++ y → a = b ∧ x = y
  | [], [], x, y, _, h => ⟨rfl, h⟩
  | k :: a, k' :: b, x, y, hl, h => by
    have h : (uv k.length ++ k ++ keyB a) ++ x = (uv k'.length ++ k' ++ keyB b) ++ y := h
    simp only [List.append_assoc] at h
    obtain ⟨e1, h⟩ := uv_pre h
    obtain ⟨e2, h⟩ := List.append_inj h e1
    obtain ⟨e3, e4⟩ := kb_inj (by simpa using hl) h
    exact ⟨by rw [e2, e3], e4⟩
theorem RecOk.one {K V : List UInt8} {n m st w l t : Int} {ks : List (List UInt8)} {beat pw pl pt : Int} {n' m' st' w' l' t' : Int} {ks' : List (List UInt8)} {beat' pw' pl' pt' : Int} (a : RecOk K V n m st w l t ks beat pw pl pt) (b : RecOk K V n' m' st' w' l' t' ks' beat' pw' pl' pt') :
    n = n' ∧ m = m' ∧ st = st' ∧ w = w' ∧ l = l' ∧ t = t' ∧ ks = ks' ∧ beat = beat' ∧ pw = pw' ∧ pl = pl' ∧ pt = pt' := by
  have ka := (knI_ok a.kn).1
  have kb := (knI_ok b.kn).1
  have za := knI_z a.kn
  have zb := knI_z b.kn
  have hk := a.k.symm.trans b.k
  have hv := a.v.symm.trans b.v
  unfold plB at hk
  injection hk with _ hk
  obtain ⟨e1, e2⟩ := List.append_inj hk (by simp [be_len])
  have a0 := ka.n0; have a1 := ka.n1; have a2 := ka.m0; have a3 := ka.m1; have a4 := ka.st0; have a5 := ka.b0
  have b0 := kb.n0; have b1 := kb.n1; have b2 := kb.m0; have b3 := kb.m1; have b4 := kb.st0; have b5 := kb.b0
  have e1 := be_inj (by show n.toNat < 4294967296; omega) (by show n'.toNat < 4294967296; omega) e1
  have e2 := be_inj (by show m.toNat < 4294967296; omega) (by show m'.toNat < 4294967296; omega) e2
  unfold keepB at hv
  obtain ⟨e3, hv⟩ := uv_pre hv
  obtain ⟨e4, hv⟩ := uv_pre hv
  obtain ⟨e5, hv⟩ := List.append_inj hv (by rw [stB_len, stB_len])
  obtain ⟨p1, p2, p3⟩ := stB_inj ka.pu kb.pu e5
  obtain rfl : st = st' := by omega
  cases he : endsB st with
  | false =>
    obtain ⟨z1, z2, z3, z4⟩ := za he
    obtain ⟨y1, y2, y3, y4⟩ := zb he
    exact ⟨by omega, by omega, rfl, by omega, by omega, by omega, by rw [z4, y4], by omega, p1, p2, p3⟩
  | true =>
    rw [he] at hv
    have hv : stB w l t ++ (uv ks.length ++ keyB ks) = stB w' l' t' ++ (uv ks'.length ++ keyB ks') := hv
    obtain ⟨e6, hv⟩ := List.append_inj hv (by rw [stB_len, stB_len])
    obtain ⟨q1, q2, q3⟩ := stB_inj (ka.at' he) (kb.at' he) e6
    obtain ⟨e7, hv⟩ := uv_pre hv
    obtain ⟨e8, _⟩ := kb_inj (x := []) (y := []) e7 (by rw [hv])
    exact ⟨by omega, by omega, rfl, q1, q2, q3, e8, by omega, p1, p2, p3⟩
theorem RecP.one {K V : List UInt8} {n m st w l t : Int} {ks : List (List UInt8)} {beat pw pl pt e : Int} {n' m' st' w' l' t' : Int} {ks' : List (List UInt8)} {beat' pw' pl' pt' e' : Int} (a : RecP K V n m st w l t ks beat pw pl pt e) (b : RecP K V n' m' st' w' l' t' ks' beat' pw' pl' pt' e') :
    n' = n ∧ m' = m ∧ st' = st ∧ w' = w ∧ l' = l ∧ t' = t ∧ ks' = ks ∧ beat' = beat ∧ pw' = pw ∧ pl' = pl ∧ pt' = pt ∧ e' = e := by
  rcases a with ⟨a, rfl⟩ | ⟨ha, rfl, rfl, rfl, rfl, rfl, rfl, rfl, rfl, rfl, rfl, rfl, rfl⟩ <;> rcases b with ⟨b, rfl⟩ | ⟨hb, rfl, rfl, rfl, rfl, rfl, rfl, rfl, rfl, rfl, rfl, rfl, rfl⟩
  · obtain ⟨rfl, rfl, rfl, rfl, rfl, rfl, rfl, rfl, rfl, rfl, rfl⟩ := a.one b
    exact ⟨rfl, rfl, rfl, rfl, rfl, rfl, rfl, rfl, rfl, rfl, rfl, rfl⟩
  · exact (hb _ _ _ _ _ _ _ _ _ _ _ a).elim
  · exact (ha _ _ _ _ _ _ _ _ _ _ _ b).elim
  · exact ⟨rfl, rfl, rfl, rfl, rfl, rfl, rfl, rfl, rfl, rfl, rfl, rfl⟩
theorem RecP.len {K V : List UInt8} {n m st w l t : Int} {ks : List (List UInt8)} {beat pw pl pt e : Int} (a : RecP K V n m st w l t ks beat pw pl pt e) : ks.length ≤ 100000 := by
  rcases a with ⟨a, rfl⟩ | ⟨ha, rfl, rfl, rfl, rfl, rfl, rfl, rfl, rfl, rfl, rfl, rfl, rfl⟩
  · have := (knI_ok a.kn).1.len; omega
  · simp
theorem t5 {K V : List UInt8} (hK : K.length ≤ 140737488351232) (hV : V.length ≤ 140737488351232) {KB : Bool → H → Prop} (hk : ∀ h', KB true h') : s5G J0 pLives pCell pCell pInt pInt pRec pRec pSame (kvAV K V) H0 KB := by
  conv => whnf
  refine ⟨K, V, rfl, hK, hV, fun r e hP => ?_⟩
  obtain ⟨key, w, l, t, val, del, hr⟩ := hP.ce
  subst hr
  conv => whnf
  refine ⟨K, V, rfl, hK, hV, fun r e' hP' => ?_⟩
  obtain ⟨hr, he⟩ := hP.one hP'
  subst hr he
  conv => whnf
  refine ⟨K, V, rfl, hK, hV, fun r e2 hQ => ?_⟩
  obtain ⟨ikey, n, m, bw, bl, bt, anchor, iw, il, it, ival, idel, hr⟩ := hQ.ins
  subst hr
  conv => whnf
  refine ⟨K, V, rfl, hK, hV, fun r e' hQ' => ?_⟩
  obtain ⟨hr, he⟩ := hQ.one hQ'
  subst hr he
  conv => whnf
  refine ⟨K, V, rfl, hK, hV, fun rn rm st rw' rl rt ks beat pw pl pt e3 hR => ?_⟩
  have two : ∀ {n' m' st' w' l' t' : Int} {ks' : List (List UInt8)} {beat' pw' pl' pt' e' : Int} {P : Int → Int → Int → Int → Int → Int → List (List UInt8) → Int → Int → Int → Int → Int → Prop}, RecP K V n' m' st' w' l' t' ks' beat' pw' pl' pt' e' → P rn rm st rw' rl rt ks beat pw pl pt e3 → P n' m' st' w' l' t' ks' beat' pw' pl' pt' e' := fun b h => by
    obtain ⟨rfl, rfl, rfl, rfl, rfl, rfl, rfl, rfl, rfl, rfl, rfl, rfl⟩ := hR.one b
    exact h
  have hlen := hR.len
  have same : ∀ {h : H} {v1 v2 : AV} {k : Bool → H → Prop}, KeysAt h v1 ks → KeysAt h v2 ks → k true h → pSame (recAV rn rm st rw' rl rt v1 beat pw pl pt) (recAV rn rm st rw' rl rt v2 beat pw pl pt) h k := fun q1 q2 hk => ⟨_, _, _, _, _, _, _, _, _, _, _, _, ks, rfl, rfl, q1, q2, hlen, hk⟩
  clear two
  refine ⟨fun hz => ?_, fun mv => ?_⟩
  · subst hz
    conv => whnf
    refine ⟨K, V, rfl, hK, hV, fun n' m' st' w' l' t' ks' beat' pw' pl' pt' e' hR' => ?_⟩
    obtain ⟨rfl, rfl, rfl, rfl, rfl, rfl, rfl, rfl, rfl, rfl, rfl, rfl⟩ := hR.one hR'
    refine ⟨fun hz => ?_, fun mv2 => ?_⟩
    · try subst hz
      repeat' ((conv => whnf); first
        | exact hk _
        | refine rec_some (eqCe _ _ _ _ _ _) ?_
        | refine rec_some (eqIn _ _ _ _ _ _ _ _ _ _ _ _) ?_
        | refine rec_true (eqI_self _) ?_
        | (refine ⟨_, _, _, _, _, _, _, _, _, _, _, _, _, rfl, rfl, ?_, ?_, hlen, ?_⟩; (first | exact .inl ⟨rfl, rfl⟩ | exact .inr ⟨_, _, _, _, _, rfl, rfl, Nat.le_of_ble_eq_true rfl⟩); (first | exact .inl ⟨rfl, rfl⟩ | exact .inr ⟨_, _, _, _, _, rfl, rfl, Nat.le_of_ble_eq_true rfl⟩)))
    · dsimp only [pushed]
      repeat' ((conv => whnf); first
        | exact hk _
        | refine rec_some (eqCe _ _ _ _ _ _) ?_
        | refine rec_some (eqIn _ _ _ _ _ _ _ _ _ _ _ _) ?_
        | refine rec_true (eqI_self _) ?_
        | (refine ⟨_, _, _, _, _, _, _, _, _, _, _, _, _, rfl, rfl, ?_, ?_, hlen, ?_⟩; (first | exact .inl ⟨rfl, rfl⟩ | exact .inr ⟨_, _, _, _, _, rfl, rfl, Nat.le_of_ble_eq_true rfl⟩); (first | exact .inl ⟨rfl, rfl⟩ | exact .inr ⟨_, _, _, _, _, rfl, rfl, Nat.le_of_ble_eq_true rfl⟩)))
  · dsimp only [pushed]
    conv => whnf
    refine ⟨K, V, rfl, hK, hV, fun n' m' st' w' l' t' ks' beat' pw' pl' pt' e' hR' => ?_⟩
    obtain ⟨rfl, rfl, rfl, rfl, rfl, rfl, rfl, rfl, rfl, rfl, rfl, rfl⟩ := hR.one hR'
    refine ⟨fun hz => ?_, fun mv2 => ?_⟩
    · try subst hz
      repeat' ((conv => whnf); first
        | exact hk _
        | refine rec_some (eqCe _ _ _ _ _ _) ?_
        | refine rec_some (eqIn _ _ _ _ _ _ _ _ _ _ _ _) ?_
        | refine rec_true (eqI_self _) ?_
        | (refine ⟨_, _, _, _, _, _, _, _, _, _, _, _, _, rfl, rfl, ?_, ?_, hlen, ?_⟩; (first | exact .inl ⟨rfl, rfl⟩ | exact .inr ⟨_, _, _, _, _, rfl, rfl, Nat.le_of_ble_eq_true rfl⟩); (first | exact .inl ⟨rfl, rfl⟩ | exact .inr ⟨_, _, _, _, _, rfl, rfl, Nat.le_of_ble_eq_true rfl⟩)))
    · dsimp only [pushed]
      repeat' ((conv => whnf); first
        | exact hk _
        | refine rec_some (eqCe _ _ _ _ _ _) ?_
        | refine rec_some (eqIn _ _ _ _ _ _ _ _ _ _ _ _) ?_
        | refine rec_true (eqI_self _) ?_
        | (refine ⟨_, _, _, _, _, _, _, _, _, _, _, _, _, rfl, rfl, ?_, ?_, hlen, ?_⟩; (first | exact .inl ⟨rfl, rfl⟩ | exact .inr ⟨_, _, _, _, _, rfl, rfl, Nat.le_of_ble_eq_true rfl⟩); (first | exact .inl ⟨rfl, rfl⟩ | exact .inr ⟨_, _, _, _, _, rfl, rfl, Nat.le_of_ble_eq_true rfl⟩)))
end Go.Proofs.Ytlbigopkplckaaa
