/- Small pure operations, and reading: sound. -/
import Derived.Test.YtdaibgpceldbdaaGreatDoorAmOpR
namespace Go.Am
open Go
section
variable {P : Program} {T : Ty} (hT : TyOk P T) {μ : Mu}

theorem un_ok {op : UnOp} {a r : AV} {x : Value} (h : aUn op a = some r) (ha : AV.rel μ a x) : ∃ v, Yld P (Op.unary op x) v ∧ r.rel μ v := by
  unfold aUn at h
  split at h
  · injection h with h; subst h; simp only [AV.rel] at ha; subst ha
    rename_i k n
    refine ⟨.int k (k.wrap (0 - n)), fun w => rfl, ?_⟩
    rw [wrapF_eq]; exact rel_int_self
  · injection h with h; subst h; simp only [AV.rel] at ha; subst ha
    exact ⟨_, fun w => rfl, by simp only [AV.rel]⟩
  · obtain ⟨q, hq, rfl⟩ := Option.map_eq_some_iff.1 h
    simp only [AV.rel] at ha; subst ha
    rename_i k n
    refine ⟨_, fun w => ?_, rel_int_self⟩
    have hb := bits_ok P w hq
    have : (Bool.rec (Int.ofNat (Nat.sub (kMod k) 1)) (-1) k.signed : Int) = (if k.signed then -1 else k.max) := by
      cases k <;> rfl
    rw [this] at hb
    exact hb
  · cases h

theorem pick_ok {c a b r : AV} {x y z : Value} (h : aPick c a b = some r) (hc : AV.rel μ c x) (ha : AV.rel μ a y) (hb : AV.rel μ b z) : ∃ v, Yld P (do pure (if ← asBool x then y else z)) v ∧ r.rel μ v := by
  unfold aPick at h
  split at h
  · injection h with h; subst h; simp only [AV.rel] at hc; subst hc; exact ⟨y, fun w => rfl, ha⟩
  · injection h with h; subst h; simp only [AV.rel] at hc; subst hc; exact ⟨z, fun w => rfl, hb⟩
  · cases h

theorem extract_ok {i : Nat} {a r : AV} {x : Value} (h : aExtract i a = some r) (ha : AV.rel μ a x) : ∃ v, Yld P (Instr.extract x i) v ∧ r.rel μ v := by
  unfold aExtract at h
  split at h
  · simp only [AV.rel] at ha
    obtain ⟨vs, rfl, hl⟩ := ha
    obtain ⟨v, hv, hr⟩ := AV.relL_get hl _ _ h
    rw [Array.getElem?_toList] at hv
    exact ⟨v, fun w => by simp [Instr.extract, hv], hr⟩
  · cases h

include hT in
theorem lenStr_ok {t ty : TypeId} {a r : AV} {x : Value} (ht : (T t).kd = .str) (h : aLenStr a = some r) (ha : AV.rel μ a x) : ∃ v, Yld P (Builtin.len_ #[t] ty #[x]) v ∧ r.rel μ v := by
  obtain ⟨d, h1, rfl⟩ := und_of hT ht rfl
  unfold aLenStr at h
  split at h
  · injection h with h; subst h; simp only [AV.rel] at ha; obtain ⟨b, rfl, rfl⟩ := ha
    exact ⟨.int .i64 (b.size : Nat), fun w => by simp [Builtin.len_, run_underlying h1, goInt], rel_int_self⟩
  · cases h
include hT in
theorem lenSl_ok {t ty e : TypeId} {a r : AV} {x : Value} (ht : (T t).kd = .slice e) (h : aLenSl a = some r) (ha : AV.rel μ a x) : ∃ v, Yld P (Builtin.len_ #[t] ty #[x]) v ∧ r.rel μ v := by
  obtain ⟨d, h1, rfl⟩ := und_of hT ht rfl
  unfold aLenSl at h
  split at h
  · injection h with h; subst h; simp only [AV.rel] at ha; subst ha
    exact ⟨.int .i64 (0 : Nat), fun w => by simp [Builtin.len_, run_underlying h1, goInt], rel_int_self⟩
  · rename_i id off len cap es ex
    injection h with h; subst h; simp only [AV.rel] at ha; obtain ⟨b, d, c, o, _, rfl, _⟩ := ha
    exact ⟨.int .i64 (len : Nat), fun w => by simp [Builtin.len_, run_underlying h1, goInt], rel_int_self⟩
  · cases h

include hT in
theorem aint_ok {s d : TypeId} {k : IntKind} {a r : AV} {x : Value} (hs : (T s).kd.known = true) (hd : (T d).kd = .int k) (h : aInt k a = some r) (ha : AV.rel μ a x) : ∃ v, Yld P (convert s d x) v ∧ r.rel μ v := by
  obtain ⟨ds, h1, _⟩ := und_of hT rfl hs
  obtain ⟨dd, h2, rfl⟩ := und_of hT hd rfl
  unfold aInt at h
  split at h
  · injection h with h; subst h; simp only [AV.rel] at ha; subst ha
    rw [wrapF_eq]
    refine ⟨_, fun w => ?_, rel_int_self⟩
    simp [convert, run_underlying h1, run_underlying h2, Conv.intToInt]
  · cases h

/-! ## reading -/
theorem cell_at {w : World} {b o : Nat} {ccs : Array Value} {t : TypeId} {fr : Nat × Nat} {v : Value} (h : w.heap[b]? = some (.cells ccs t fr)) (hv : ccs[o]? = some v) : w.cell? ⟨b, o, none⟩ = some v := by
  simp [World.cell?, h, hv]

include hT in
theorem load1_ok {t : TypeId} {a r : AV} {x : Value} {h : H} {w : World} (ht : (T t).kd.known = true) (hg : (T t).kd.agg = false) (hr : Rel μ h w) (e : aLoad1 a h = some r) (ha : AV.rel μ a x) :
    ∃ v, (Instr.loadAt t x).run P w = .ok v w ∧ r.rel μ v := by
  unfold aLoad1 at e
  split at e
  · rename_i id off
    simp only [AV.rel] at ha
    obtain ⟨b, d, hm, rfl⟩ := ha
    have hb := hr.blk id b d hm
    split at e
    · rename_i t' cs hc
      rw [hc] at hb
      obtain ⟨ccs, fr, h1, h2, _⟩ := hb
      rw [lgetO_eq] at e
      obtain ⟨v, hv, hvr⟩ := h2 off r e
      refine ⟨v, ?_, hvr⟩
      simp [Instr.loadAt, Instr.sureAddr, loadVar, agg_run hT ht, hg, cell_at h1 hv]
    · rename_i t' fz sg s hc
      rw [hc] at hb
      obtain ⟨ccs, fr, l, h1, rfl, h2, _⟩ := hb
      rw [Str.brec] at e
      split at e
      · rename_i hlt; rw [blt_iff] at hlt
        have hlt : off < l.length := hlt
        injection e with e; subst e
        have hv := h2 off l[off] (by simp [hlt])
        refine ⟨.int .u8 (Int.ofNat ((Str.of l).get off)), ?_, rel_int_self⟩
        rw [Str.get_of l off hlt]
        simp [Instr.loadAt, Instr.sureAddr, loadVar, agg_run hT ht, hg, cell_at h1 hv]
      · cases e
    · cases e
  · cases e

include hT in
theorem loadN_ok {t : TypeId} {a r : AV} {x : Value} {h : H} {w : World} (ht : (T t).kd.known = true) (hg : (T t).kd.agg = true) (hr : Rel μ h w) (e : aLoadN (T t).size a h = some r) (ha : AV.rel μ a x) :
    ∃ v, (Instr.loadAt t x).run P w = .ok v w ∧ r.rel μ v := by
  unfold aLoadN at e
  split at e
  · rename_i id off
    simp only [AV.rel] at ha
    obtain ⟨b, d, hm, rfl⟩ := ha
    have hb := hr.blk id b d hm
    split at e
    · rename_i t' cs hc
      rw [hc] at hb
      obtain ⟨ccs, fr, h1, h2, _⟩ := hb
      rw [ltake_eq, ldrop_eq] at e
      split at e
      · rename_i l hl
        split at hl
        · rename_i hle
          injection hl with hl; injection e with e; subst hl e
          have hlen : ((cs.drop off).take (T t).size).length = (T t).size := by simp at hle ⊢; omega
          have key : ∀ j a, ((cs.drop off).take (T t).size)[j]? = some a → ∃ v, ccs[d + off + j]? = some v ∧ AV.rel μ a v := by
            intro j a hj
            rw [List.getElem?_take] at hj
            split at hj
            · rw [List.getElem?_drop] at hj
              obtain ⟨v, hv, hvr⟩ := h2 _ _ hj
              exact ⟨v, by rw [Nat.add_assoc]; exact hv, hvr⟩
            · cases hj
          have hcell : ∀ j, j < (T t).size → w.cell? ((⟨b, d + off, none⟩ : Addr).add j) = some (ccs[d + off + j]?.getD undef) := by
            intro j hj
            rw [addr_add]
            obtain ⟨v, hv, _⟩ := key j _ (List.getElem?_eq_getElem (by rw [hlen]; exact hj))
            rw [hv]; exact cell_at h1 hv
          refine ⟨.agg ((List.range (T t).size).map fun j => ccs[d + off + j]?.getD undef).toArray, ?_, ?_⟩
          · simp only [Instr.loadAt, Instr.sureAddr, Sem.run_bind, Sem.run_pure, Result.andThen_ok, loadVar, agg_run hT ht, hg, if_true, size_run hT ht, run_loadCells w _ _ _ hcell]
          · simp only [AV.rel]
            refine ⟨_, rfl, AV.relL_of_get (by simp; rw [List.length_take, List.length_drop] at hlen; omega) fun j a hj => ?_⟩
            obtain ⟨v, hv, hvr⟩ := key j a hj
            have hjl : j < (T t).size := by
              have := (List.getElem?_eq_some_iff.1 hj).1; omega
            exact ⟨v, by simp [hjl, hv], hvr⟩
        · cases hl
      · cases e
    · cases e
  · cases e
end
end Go.Am
