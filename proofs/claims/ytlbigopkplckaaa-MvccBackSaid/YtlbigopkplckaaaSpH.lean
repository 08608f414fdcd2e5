/- The functions of the layer of versions, each told by what it answers: which records may be. No condition. -/
import Derived.Test.YtlbigopkplckaaaSpG
import Derived.Test.YtlbigopkplckaaaAmL7
namespace Go.Proofs.Ytlbigopkplckaaa
open Go Go.Am
set_option linter.all false
set_option maxRecDepth 100000
def recAV (n m st w l t : Int) (kv : AV) (beat pw pl pt : Int) : AV := .agg [.int .i32 n, .int .i32 m, .int .u8 st, .int .i64 w, .int .i32 l, .int .i32 t, kv, .int .i64 beat, .int .i64 pw, .int .i32 pl, .int .i32 pt]
/-- the heap in which a list of keys stands, and nothing else -/
noncomputable def hK (tt : Nat) (ks : List (List UInt8)) : H := ⟨Tr.set .lf 0 (.cells true tt (kcells ks)), 1, 1⟩
theorem hK_is (tt : Nat) (ks : List (List UInt8)) : hK tt ks = Hg [.cells true tt (kcells ks)] := rfl
def KV (h0 : H) (v : AV) (ks : List (List UInt8)) : Prop := (h0 = H0 ∧ v = .nils ∧ ks = []) ∨ ∃ tt c ex, h0 = hK tt ks ∧ v = .slice 0 0 ks.length c 1 ex
theorem KV.keys {h0 : H} {v : AV} {ks : List (List UInt8)} (q : KV h0 v ks) : KeysAt h0 v ks := by
  rcases q with ⟨rfl, rfl, rfl⟩ | ⟨tt, c, ex, rfl, rfl⟩
  · exact .inl ⟨rfl, rfl⟩
  · exact .inr ⟨0, c, ex, true, tt, rfl, rfl, Nat.one_pos⟩
/-- keys that rise, and there are some -/
noncomputable def fineB (ks : List (List UInt8)) : Bool := ltI (Int.ofNat 0) (Int.ofNat ks.length) && risB ks
/-- no stamp at all -/
noncomputable def zS (w l t : Int) : Bool := eqI w (Int.ofNat 0) && (eqI l (Int.ofNat 0) && eqI t (Int.ofNat 0))
theorem rec_some_b {o : Option AV} {b : Bool} {F : AV → Prop} (h : o = some (.bool b)) (h1 : b = true → F (.bool true)) (h0 : b = false → F (.bool false)) : Option.rec (motive := fun _ => Prop) False (fun a => F a) o := by
  rw [h]; cases b
  · exact h0 rfl
  · exact h1 rfl
noncomputable def okR (n m st w l t : Int) (ks : List (List UInt8)) (beat pw pl pt : Int) : Bool :=
  okT n m && (!(ltI beat (Int.ofNat 0)) && (!(ltI (Int.ofNat 1099511627776) beat) && (okS pw pl pt && (cond (eqI st (Int.ofNat 1) || eqI st (Int.ofNat 4))
    (zS w l t && eqI (Int.ofNat ks.length) (Int.ofNat 0))
    (cond (eqI st (Int.ofNat 2) || eqI st (Int.ofNat 3)) (okS w l t && (eqI t (tagI n m) && fineB ks)) false)))))
noncomputable def chkR (n m st w l t : Int) (ks : List (List UInt8)) (beat pw pl pt : Int) : Int := cond (ltI (Int.ofNat 24) (Int.ofNat ks.length)) (Int.ofNat 3) (bad (okR n m st w l t ks beat pw pl pt))
noncomputable def pRis : AV → H → (Bool → H → Prop) → Prop := fun v h k => ∃ ks, KeysAt h v ks ∧ ks.length ≤ 100000 ∧ k (risB ks) h
noncomputable def pFine : AV → H → (Bool → H → Prop) → Prop := fun v h k => ∃ ks, KeysAt h v ks ∧ ks.length ≤ 100000 ∧ k (fineB ks) h
theorem eqSt (a b c d e f : Int) : aBin ty .eql 28 false (stAV a b c) (stAV d e f) = some (.bool (eqI a d && (eqI b e && eqI c f))) := by
  have : aBin ty .eql 28 false (stAV a b c) (stAV d e f) = Option.map AV.bool (match some (eqI a d) with | some true => (match some (eqI b e) with | some true => (match some (eqI c f) with | some true => some true | some false => some false | none => none) | some false => some false | none => none) | some false => some false | none => none) := rfl
  rw [this]; cases eqI a d <;> cases eqI b e <;> cases eqI c f <;> rfl
theorem neSt (a b c d e f : Int) : aBin ty .neq 28 false (stAV a b c) (stAV d e f) = some (.bool (Bool.not (eqI a d && (eqI b e && eqI c f)))) := by
  have : aBin ty .neq 28 false (stAV a b c) (stAV d e f) = Option.map (fun b => AV.bool (Bool.not b)) (match some (eqI a d) with | some true => (match some (eqI b e) with | some true => (match some (eqI c f) with | some true => some true | some false => some false | none => none) | some false => some false | none => none) | some false => some false | none => none) := rfl
  rw [this]; cases eqI a d <;> cases eqI b e <;> cases eqI c f <;> rfl
theorem eqSt0 (a b c : Int) : aBin ty .eql 28 false (stAV a b c) (stAV 0 0 0) = some (.bool (zS a b c)) := eqSt a b c 0 0 0
theorem neSt0 (a b c : Int) : aBin ty .neq 28 false (stAV a b c) (stAV 0 0 0) = some (.bool (Bool.not (zS a b c))) := neSt a b c 0 0 0
theorem fineB_nil : fineB [] = false := rfl
theorem c00 : eqI 0 0 = true := rfl
theorem l00 : ltI 0 0 = false := rfl
theorem l24 : ltI 24 0 = false := rfl
section
variable {K : Int → Prop}
theorem t71 {h0 : H} {v : AV} {ks : List (List UInt8)} (q : KV h0 v ks) {n m st w l t beat pw pl pt : Int} (hk : ∀ r, r = chkR n m st w l t ks beat pw pl pt → K r) : s71G J0 pChk pTag pRis (recAV n m st w l t v beat pw pl pt) h0 fun r _ => K r := by
  rcases q with ⟨rfl, rfl, rfl⟩ | ⟨tt, c, ex, rfl, rfl⟩
  · repeat' ((conv => whnf); first | exact hk _ (by simp_all [chkR, okR, fineB, eqI_bad, eqI_bad', bad_t, bad_f, c00, l00, l24]) | refine ⟨_, _, _, rfl, ?_⟩ | refine ⟨_, _, rfl, ?_⟩ | refine ⟨[], .inl ⟨rfl, rfl⟩, Nat.zero_le _, ?_⟩ | refine rec_intro (fun _ => ?_) (fun _ => ?_) | refine rec_some_b (eqSt0 _ _ _) (fun _ => ?_) (fun _ => ?_))
  · repeat' ((conv => whnf); first | exact hk _ (by simp_all [chkR, okR, fineB, eqI_bad, eqI_bad', bad_t, bad_f]) | refine ⟨_, _, _, rfl, ?_⟩ | refine ⟨_, _, rfl, ?_⟩ | refine ⟨ks, .inr ⟨0, _, _, _, _, rfl, rfl, Nat.succ_pos _⟩, by have := ge_of_ltI ‹ltI (Int.ofNat 24) (Int.ofNat ks.length) = false›; omega, ?_⟩ | refine rec_intro (fun _ => ?_) (fun _ => ?_) | refine rec_some_b (eqSt0 _ _ _) (fun _ => ?_) (fun _ => ?_))
theorem t74 {h0 : H} {v : AV} {ks : List (List UInt8)} (q : KV h0 v ks) {n m st w l t beat pw pl pt : Int} (hk : ∀ r, r = chkR n m st w l t ks beat pw pl pt → K r) : s74G J0 pChk pTag pFine (recAV n m st w l t v beat pw pl pt) h0 fun r _ => K r := by
  rcases q with ⟨rfl, rfl, rfl⟩ | ⟨tt, c, ex, rfl, rfl⟩
  · repeat' ((conv => whnf); first | exact hk _ (by simp_all [chkR, okR, eqI_bad, eqI_bad', bad_t, bad_f, c00, l00, l24, fineB_nil]) | refine ⟨_, _, _, rfl, ?_⟩ | refine ⟨_, _, rfl, ?_⟩ | refine ⟨[], .inl ⟨rfl, rfl⟩, Nat.zero_le _, ?_⟩ | refine rec_intro (fun _ => ?_) (fun _ => ?_) | refine rec_some_b (neSt0 _ _ _) (fun _ => ?_) (fun _ => ?_))
  · repeat' ((conv => whnf); first | exact hk _ (by simp_all [chkR, okR, eqI_bad, eqI_bad', bad_t, bad_f]) | refine ⟨_, _, _, rfl, ?_⟩ | refine ⟨_, _, rfl, ?_⟩ | refine ⟨ks, .inr ⟨0, _, _, _, _, rfl, rfl, Nat.succ_pos _⟩, by have := ge_of_ltI ‹ltI (Int.ofNat 24) (Int.ofNat ks.length) = false›; omega, ?_⟩ | refine rec_intro (fun _ => ?_) (fun _ => ?_) | refine rec_some_b (neSt0 _ _ _) (fun _ => ?_) (fun _ => ?_))
end
end Go.Proofs.Ytlbigopkplckaaa
