/- Making maps, rows and iterators; going on with an iterator; type assertions: sound. -/
import Derived.Test.YtdaibgpceldbdaaGreatDoorAmMap
namespace Go.Am
open Go

/-! ## the operations -/
noncomputable def aMakeMap (h : H) : Option (AV × H) :=
  match h.push (.smap []) with
  | some (n, h') => some (.map n, h')
  | none => none
noncomputable def aClone (v : AV) (h : H) : Option (AV × H) :=
  match v with
  | .iface t (.map id) => match h.get id with
    | .amap es clock => match h.push (.amap es clock) with
      | some (n, h') => some (.iface t (.map n), h')
      | none => none
    | .smap es => match h.push (.smap es) with
      | some (n, h') => some (.iface t (.map n), h')
      | none => none
    | _ => none
  | _ => none
/-- a range over a map begins: its entries may stand in any order -/
noncomputable def aRangeK (x : AV) (h : H) (k : AV → H → Prop) : Prop :=
  match x with
  | .nilm => match h.push (.miter none 0 [] 0) with
    | some (n, h') => k (.ptr n 0) h'
    | none => False
  | .map id => match h.get id with
    | .amap _ clock => match h.push (.miter (some id) clock [] clock) with
      | some (n, h') => k (.ptr n 0) h'
      | none => False
    | .smap es => ∀ es' clock, Shown es es' clock → match h.put id (.amap es' clock) with
      | some h1 => match h1.push (.miter (some id) clock [] clock) with
        | some (n, h') => k (.ptr n 0) h'
        | none => False
      | none => False
    | _ => False
  | _ => False
def hasN : List Nat → Nat → Bool
  | [], _ => false
  | a :: r, n => match Nat.beq a n with
    | true => true
    | false => hasN r n
theorem hasN_eq : ∀ (l : List Nat) (n : Nat), hasN l n = l.contains n
  | [], _ => rfl
  | a :: r, n => by
    unfold hasN
    rw [List.contains_cons]
    cases h : Nat.beq a n with
    | true => rw [Nat.beq_eq] at h; simp [h]
    | false => simp only; rw [hasN_eq r n]; have : (n == a) = false := by { rw [beq_eq_false_iff_ne]; intro e; subst e; simp at h }; rw [this]; simp
/-- an iterator's candidates: an entry, or the end -/
noncomputable def aCands (since : Nat) (seen : List Nat) (es : List (AV × AV × Nat)) : List (Option (AV × AV × Nat)) :=
  let left := es.filter fun e => !hasN seen e.2.2
  let old := left.filter fun e => Nat.blt e.2.2 since
  let new := left.filter fun e => !Nat.blt e.2.2 since
  (match old with
    | [] => [none]
    | _ => []) ++ (old ++ new).map some
/-- at a range's end the map may be told in an order of our own, and the iterator given up -/
def overK (m r : Nat) (es : List (AV × AV × Nat)) (clock : Nat) (h : H) (k : AV → H → Prop) : Prop :=
  k (.tuple [.bool false]) h ∨ ∃ es0 h1 h2, Shown es0 es clock ∧ h.put m (.smap es0) = some h1 ∧ h1.put r .dead = some h2 ∧ k (.tuple [.bool false]) h2
noncomputable def aNext (it : AV) (h : H) (k : AV → H → Prop) : Prop :=
  match it with
  | .ptr r 0 => match h.get r with
    | .miter none _ _ _ => k (.tuple [.bool false]) h
    | .miter (some m) since seen last => match h.get m with
      | .amap es clock => match !seen.isEmpty && !es.isEmpty && es.all (fun e => Nat.ble last e.2.2) with
        | true => False
        | false => ∀ c ∈ aCands since seen es, match c with
          | none => overK m r es clock h k
          | some (x, v, n) => match h.put r (.miter (some m) since (lapp seen [n]) clock) with
            | some h' => k (.tuple [.bool true, x, v]) h'
            | none => False
      | _ => False
    | _ => False
  | _ => False
noncomputable def aEntry (it : AV) (h : H) : Option AV :=
  match it with
  | .ptr r 0 => match h.get r with
    | .miter (some m) _ seen last => match h.get m with
      | .amap es clock => match Nat.beq clock last, seen.getLast? with
        | true, some n => match es.find? fun e => Nat.beq e.2.2 n with
          | some (x, v, _) => some (.tuple [x, v])
          | none => none
        | _, _ => none
      | _ => none
    | _ => none
  | _ => none
def Kd.isIface : Kd → Bool
  | .iface => true
  | _ => false
noncomputable def aAssert (T : Ty) (a : Nat) (ok : Bool) (x : AV) : Option AV :=
  match (T a).kd.known && !(T a).kd.isIface with
  | true => match x with
    | .iface t v => match Nat.beq t a with
      | true => some (match ok with
        | true => .tuple [v, .bool true]
        | false => v)
      | false => match ok with
        | true => match aZero T a with
          | some z => some (.tuple [z, .bool false])
          | none => none
        | false => none
    | .nili => match ok with
      | true => match aZero T a with
        | some z => some (.tuple [z, .bool false])
        | none => none
      | false => none
    | _ => none
  | false => none
noncomputable def mkRow (u8 : Bool) (t n : Nat) (zero : List AV) : Option Blk :=
  match u8 with
  | true => match zero with
    | [.int .u8 (.ofNat 0)] => some (.bytes t 0 false ⟨n, 0⟩)
    | _ => none
  | false => some (.cells false t (lrep n zero))
noncomputable def aMakeSl (T : Ty) (e : Nat) (l c : AV) : Option (Blk × (Nat → AV)) :=
  match l, c with
  | .int .i64 (.ofNat l), .int .i64 (.ofNat c) => Bool.rec none (match mkRow (T e).kd.isU8 e c (T e).zero with
    | some k => some (k, fun i => .slice i 0 l c (T e).size true)
    | none => none) (Bool.and (Nat.ble l c) (Nat.ble (Nat.mul (T e).bytes c) 140737488355328))
  | _, _ => none

section
variable {P : Program} {T : Ty} (hT : TyOk P T) {μ : Mu}

theorem newObj_run {w : World} {o : Obj} : (newObj o).run P w = .ok w.heap.size { w with heap := w.heap.push o } := rfl

/-- a new block that is no row of cells -/
theorem push_obj {h h' : H} {w : World} {n : Nat} {k : Blk} {o : Obj} (hR : Rel μ h w) (hp : h.push k = some (n, h')) (ho : ∀ c e f, o ≠ .cells c e f) (hk : ∀ (μ' : Mu) (w' : World), Le μ μ' → w'.heap[w.heap.size]? = some o → BlkRel μ' w' w.heap.size 0 k) :
    ∃ μ', μ' n = some (w.heap.size, 0) ∧ Post μ h w μ' h' { w with heap := w.heap.push o } := by
  have hle : Le μ (upd μ h.next (w.heap.size, 0) 0) := upd_le _ _ fun p hm => by have := (hR.dom _ p.1 p.2 hm).1; omega
  obtain ⟨rfl, hpost⟩ := push_post (s := 0) (o := o) (w' := { w with heap := w.heap.push o }) hR hp rfl rfl rfl rfl (fun c t f e => absurd e (ho c t f)) (hk _ _ hle (by simp))
  exact ⟨_, upd_self _ _ _ _, hpost⟩

theorem makeMap_ok {t : TypeId} {h h' : H} {w : World} {r : AV} (hR : Rel μ h w) (e : aMakeMap h = some (r, h')) : ∃ v w' μ', (Instr.makeMap t none).run P w = .ok v w' ∧ r.rel μ' v ∧ Post μ h w μ' h' w' := by
  unfold aMakeMap at e
  split at e
  · rename_i n h1 hp
    injection e with e; injection e with e1 e2; subst e1 e2
    obtain ⟨μ', m, hpost⟩ := push_obj hR hp (o := .map #[] 0) (by simp) fun μ' w' _ hw => ⟨rfl, [], 0, _, hw, rfl, ⟨.refl _, by simp, by simp, by simp⟩⟩
    exact ⟨.map (some w.heap.size), _, μ', rfl, by simp only [AV.rel]; exact ⟨_, m, rfl⟩, hpost⟩
  · cases e

theorem clone_ok {h h' : H} {w : World} {a r : AV} {x : Value} (hR : Rel μ h w) (e : aClone a h = some (r, h')) (ha : a.rel μ x) : ∃ v w' μ', (Extern.MapsClone.clone #[x]).run P w = .ok v w' ∧ r.rel μ' v ∧ Post μ h w μ' h' w' := by
  unfold aClone at e
  split at e
  · rename_i t id
    simp only [AV.rel] at ha
    obtain ⟨y, rfl, b, hm, rfl⟩ := ha
    split at e
    · rename_i es clock hg
      have hb := hR.blk id b 0 hm
      rw [hg] at hb
      obtain ⟨_, ces, hh, hes⟩ := hb
      split at e
      · rename_i n h1 hp
        injection e with e; injection e with e1 e2; subst e1 e2
        obtain ⟨μ', m, hpost⟩ := push_obj hR hp (o := .map ces clock) (by simp) fun μ' w' hle hw => ⟨rfl, _, hw, hes.mono hle⟩
        refine ⟨.iface t (.map (some w.heap.size)), _, μ', ?_, by simp only [AV.rel]; exact ⟨_, rfl, _, m, rfl⟩, hpost⟩
        have e0 : Extern.MapsClone.clone #[.iface t (.map (some b))] = (do
            let .map entries clock ← getObj b | stuck "maps.clone: a map expected"
            pure (.iface t (.map (some (← newObj (.map entries clock)))))) := rfl
        rw [e0]
        simp only [Sem.run_bind, getObj_run hh (by simp), Result.andThen_ok, newObj_run, Sem.run_pure]
      · cases e
    · rename_i es0 hg
      have hb := hR.blk id b 0 hm
      rw [hg] at hb
      obtain ⟨_, es, clock, ces, hh, hes, hs⟩ := hb
      split at e
      · rename_i n h1 hp
        injection e with e; injection e with e1 e2; subst e1 e2
        obtain ⟨μ', m, hpost⟩ := push_obj hR hp (o := .map ces clock) (by simp) fun μ' w' hle hw => ⟨rfl, _, _, _, hw, hes.mono hle, hs⟩
        refine ⟨.iface t (.map (some w.heap.size)), _, μ', ?_, by simp only [AV.rel]; exact ⟨_, rfl, _, m, rfl⟩, hpost⟩
        have e0 : Extern.MapsClone.clone #[.iface t (.map (some b))] = (do
            let .map entries clock ← getObj b | stuck "maps.clone: a map expected"
            pure (.iface t (.map (some (← newObj (.map entries clock)))))) := rfl
        rw [e0]
        simp only [Sem.run_bind, getObj_run hh (by simp), Result.andThen_ok, newObj_run, Sem.run_pure]
      · cases e
    · cases e
  · cases e

include hT in
theorem range_ok {t k v0 : TypeId} {h : H} {w : World} {K : AV → H → Prop} {a : AV} {x : Value} (ht : (T t).kd = .map k v0) (hR : Rel μ h w) (e : aRangeK a h K) (ha : a.rel μ x) : ∃ r h' v w' μ', K r h' ∧ (Instr.range t x).run P w = .ok v w' ∧ r.rel μ' v ∧ Post μ h w μ' h' w' := by
  obtain ⟨_, hd, rfl⟩ := und_of hT ht rfl
  unfold aRangeK at e
  split at e
  · simp only [AV.rel] at ha; subst ha
    split at e
    · rename_i n h1 hp
      obtain ⟨μ', m, hpost⟩ := push_obj hR hp (o := .mapIter none 0 #[] 0) (by simp) fun μ' w' hle hw => ⟨rfl, _, hw, rfl⟩
      refine ⟨_, _, .pointer (some ⟨w.heap.size, 0, none⟩), _, μ', e, ?_, by simp only [AV.rel]; exact ⟨_, 0, m, rfl⟩, hpost⟩
      simp only [Instr.range, Sem.run_bind, run_underlying hd, Result.andThen_ok, Sem.run_pure, newObj_run]
    · exact e.elim
  · rename_i id
    simp only [AV.rel] at ha
    obtain ⟨b, hm, rfl⟩ := ha
    split at e
    · rename_i es clock hg
      have hb := hR.blk id b 0 hm
      rw [hg] at hb
      obtain ⟨_, ces, hh, hes⟩ := hb
      split at e
      · rename_i n h1 hp
        obtain ⟨μ', m, hpost⟩ := push_obj hR hp (o := .mapIter (some b) clock #[] clock) (by simp) fun μ' w' hle hw => ⟨rfl, _, hw, _, (hle _ _ hm).1, rfl⟩
        refine ⟨_, _, .pointer (some ⟨w.heap.size, 0, none⟩), _, μ', e, ?_, by simp only [AV.rel]; exact ⟨_, 0, m, rfl⟩, hpost⟩
        simp only [Instr.range, Sem.run_bind, run_underlying hd, Result.andThen_ok, Sem.run_pure, newObj_run, getObj_run hh (by simp)]
      · exact e.elim
    · rename_i es0 hg
      have hb := hR.blk id b 0 hm
      rw [hg] at hb
      obtain ⟨_, es, clock, ces, hh, hes, hs⟩ := hb
      have e := e es clock hs
      split at e
      · rename_i h1 hp1
        have p1 : Post μ h w μ h1 w := relabel hR hp1 hm (by rw [hg]; rfl) ⟨rfl, _, hh, hes⟩
        split at e
        · rename_i n h2 hp
          obtain ⟨μ', m, hpost⟩ := push_obj p1.rel hp (o := .mapIter (some b) clock #[] clock) (by simp) fun μ' w' hle hw => ⟨rfl, _, hw, _, (hle _ _ hm).1, rfl⟩
          refine ⟨_, _, .pointer (some ⟨w.heap.size, 0, none⟩), _, μ', e, ?_, by simp only [AV.rel]; exact ⟨_, 0, m, rfl⟩, p1.trans hpost⟩
          simp only [Instr.range, Sem.run_bind, run_underlying hd, Result.andThen_ok, Sem.run_pure, newObj_run, getObj_run hh (by simp)]
        · exact e.elim
      · exact e.elim
    · exact e.elim
  · exact e.elim

theorem EsRel.filter {p : AV × AV × Nat → Bool} {q : MapEntry → Bool} (hpq : ∀ k v n (e : MapEntry), e.born = n → p (k, v, n) = q e) : ∀ {es : List (AV × AV × Nat)} {l : List MapEntry}, EsRel μ es l → EsRel μ (es.filter p) (l.filter q)
  | [], _, h => by rw [show _ = [] from h]; rfl
  | (k, v, n) :: es, l, h => by
    obtain ⟨e, l', rfl, h2, h3, h4, h5⟩ := h
    simp only [List.filter_cons, hpq k v n e h4]
    split
    · exact ⟨e, _, rfl, h2, h3, h4, EsRel.filter hpq h5⟩
    · exact EsRel.filter hpq h5
theorem EsRel.all {p : AV × AV × Nat → Bool} {q : MapEntry → Bool} (hpq : ∀ k v n (e : MapEntry), e.born = n → p (k, v, n) = q e) : ∀ {es : List (AV × AV × Nat)} {l : List MapEntry}, EsRel μ es l → es.all p = l.all q
  | [], _, h => by rw [show _ = [] from h]; rfl
  | (k, v, n) :: es, l, h => by
    obtain ⟨e, l', rfl, h2, h3, h4, h5⟩ := h
    simp only [List.all_cons, hpq k v n e h4, EsRel.all hpq h5]
theorem EsRel.empty {es : List (AV × AV × Nat)} {l : List MapEntry} (h : EsRel μ es l) : es.isEmpty = l.isEmpty := by
  have := h.length
  cases es <;> cases l <;> simp at this <;> rfl
theorem EsRel.find {p : AV × AV × Nat → Bool} {q : MapEntry → Bool} (hpq : ∀ k v n (e : MapEntry), e.born = n → p (k, v, n) = q e) : ∀ {es : List (AV × AV × Nat)} {l : List MapEntry}, EsRel μ es l → ∀ {k v : AV} {n : Nat}, es.find? p = some (k, v, n) → ∃ e, l.find? q = some e ∧ k.rel μ e.key ∧ v.rel μ e.val
  | [], _, _, _, _, _, hf => by simp at hf
  | (k, v, n) :: es, l, h, k', v', n', hf => by
    obtain ⟨e, l', rfl, h2, h3, h4, h5⟩ := h
    simp only [List.find?_cons, hpq k v n e h4] at hf ⊢
    split at hf
    · rename_i hq; injection hf with hf; injection hf with e1 e2; injection e2 with e2 e3; subst e1 e2
      exact ⟨e, rfl, h2, h3⟩
    · exact EsRel.find hpq h5 hf

/-- what 'next' asks of the candidates -/
theorem next_ok {h : H} {w : World} {it : AV} {x : Value} {k : AV → H → Prop} {ty : TypeId} (hR : Rel μ h w) (e : aNext it h k) (ha : it.rel μ x) :
    ∃ r h' v w', k r h' ∧ (Instr.next x false ty).run P w = .ok v w' ∧ r.rel μ v ∧ Post μ h w μ h' w' := by
  have over : (AV.tuple [.bool false]).rel μ (.tuple #[.bool false]) := by simp only [AV.rel]; exact ⟨_, rfl, AV.relL_cons_cons.2 ⟨by simp [AV.rel], AV.relL_nil.2 rfl⟩⟩
  unfold aNext at e
  split at e
  · rename_i r
    simp only [AV.rel] at ha
    obtain ⟨b, d, hm, rfl⟩ := ha
    have hb := hR.blk r b d hm
    split at e
    · rename_i hg
      rw [hg] at hb
      obtain ⟨rfl, cm, hh, hmid⟩ := hb
      have hmid : cm = none := hmid
      subst hmid
      refine ⟨_, h, .tuple #[.bool false], w, e, ?_, over, Post.refl hR⟩
      simp only [Instr.next, Nat.zero_add, Sem.run_bind, getObj_run hh (by simp), Result.andThen_ok, Sem.run_pure]
    · rename_i m since seen last hg
      rw [hg] at hb
      obtain ⟨rfl, cm, hh, bm, hmm, rfl⟩ := hb
      split at e
      · rename_i es clock hgm
        have hbm := hR.blk m bm 0 hmm
        rw [hgm] at hbm
        obtain ⟨_, ces, hhm, hes⟩ := hbm
        split at e
        · exact e.elim
        · rename_i hstale
          obtain ⟨left, hleft⟩ : ∃ left, left = ces.filter fun e => !seen.toArray.contains e.born := ⟨_, rfl⟩
          obtain ⟨old, hold⟩ : ∃ old, old = left.filter (·.born < since) := ⟨_, rfl⟩
          obtain ⟨new, hnew⟩ : ∃ new, new = left.filter (·.born ≥ since) := ⟨_, rfl⟩
          obtain ⟨cands, hcands⟩ : ∃ cands, cands = (if old.isEmpty then #[none] else #[]) ++ (old ++ new).map some := ⟨_, rfl⟩
          have rl : EsRel μ (es.filter fun e => !hasN seen e.2.2) left.toList := by
            rw [hleft, Array.toList_filter]
            exact EsRel.filter (fun k v n e he => by subst he; simp only [hasN_eq]; simp) hes
          have ro : EsRel μ ((es.filter fun e => !hasN seen e.2.2).filter fun e => Nat.blt e.2.2 since) old.toList := by
            rw [hold, Array.toList_filter]
            refine EsRel.filter (fun k v n e he => ?_) rl
            subst he; rw [Bool.eq_iff_iff, blt_iff]; simp
          have rn : EsRel μ ((es.filter fun e => !hasN seen e.2.2).filter fun e => !Nat.blt e.2.2 since) new.toList := by
            rw [hnew, Array.toList_filter]
            refine EsRel.filter (fun k v n e he => ?_) rl
            subst he; rw [Bool.eq_iff_iff]; simp only [Bool.not_eq_true', decide_eq_true_eq]
            rw [← Bool.not_eq_true, blt_iff]; omega
          have hst : (!seen.toArray.isEmpty && !ces.isEmpty && ces.all (·.born ≥ last)) = false := by
            rw [← hstale, ← Array.isEmpty_toList, ← Array.isEmpty_toList, ← Array.all_toList, ← hes.empty]
            rw [EsRel.all (q := fun e : MapEntry => decide (e.born ≥ last)) (p := fun e => Nat.ble last e.2.2) (fun k v n e he => by subst he; rw [Bool.eq_iff_iff, ble_iff]; simp) hes]
          -- the candidates, one beside the other
          obtain ⟨A, B, hac, ro, rn⟩ : ∃ A B, aCands since seen es = (match A with | [] => [none] | _ => []) ++ (A ++ B).map some ∧ EsRel μ A old.toList ∧ EsRel μ B new.toList := ⟨_, _, rfl, ro, rn⟩
          have happ := ro.append rn
          have h1 := ro.length; have h2 := rn.length
          have h3 := ro.empty
          simp only [Array.length_toList] at h1 h2
          have len : cands.size = (aCands since seen es).length := by
            rw [hcands, hac]
            cases A with
            | nil =>
              have : old.isEmpty = true := by rw [← Array.isEmpty_toList, ← h3]; rfl
              simp only [this, if_true, Array.size_append, Array.size_map, h1, h2, List.length_append, List.length_map]; rfl
            | cons z zs =>
              have : old.isEmpty = false := by rw [← Array.isEmpty_toList, ← h3]; rfl
              simp only [this, Bool.false_eq_true, if_false, Array.size_append, Array.size_map, h1, h2, List.length_append, List.length_map]; rfl
          have pos : 0 < cands.size := by
            rw [len, hac]
            cases A <;> simp
          have tail : ∀ (q : Nat) (c : Option (AV × AV × Nat)), ((A ++ B).map some)[q]? = some c → match c with
              | none => False
              | some (x, v, n) => ∃ e, ((old ++ new).map some)[q]? = some (some e) ∧ x.rel μ e.key ∧ v.rel μ e.val ∧ e.born = n := by
            intro q c hc
            rw [List.getElem?_map] at hc
            cases hz : (A ++ B)[q]? with
            | none => rw [hz] at hc; cases hc
            | some z =>
              obtain ⟨x, v, n⟩ := z
              rw [hz] at hc; injection hc with hc; subst hc
              obtain ⟨e, e1, e2, e3, e4⟩ := happ.get hz
              refine ⟨e, ?_, e2, e3, e4⟩
              rw [Array.getElem?_map, ← Array.getElem?_toList, Array.toList_append, e1]; rfl
          have at_ : ∀ i, i < cands.size → ∃ c, (aCands since seen es)[i]? = some c ∧ match c with
              | none => cands[i]? = some none
              | some (x, v, n) => ∃ e, cands[i]? = some (some e) ∧ x.rel μ e.key ∧ v.rel μ e.val ∧ e.born = n := by
            intro i hi
            have hi' : i < (aCands since seen es).length := by rw [← len]; exact hi
            obtain ⟨c, hcv⟩ : ∃ c, (aCands since seen es)[i]? = some c := ⟨_, List.getElem?_eq_getElem hi'⟩
            refine ⟨c, hcv, ?_⟩
            rw [hac] at hcv
            rw [hcands]
            cases A with
            | nil =>
              have hoe : old.isEmpty = true := by rw [← Array.isEmpty_toList, ← h3]; rfl
              simp only [hoe, if_true]
              cases i with
              | zero =>
                simp at hcv; subst hcv
                show (#[none] ++ (old ++ new).map some)[0]? = some none
                rw [Array.getElem?_append_left (by simp)]; rfl
              | succ i =>
                have hcv : ((([] : List (AV × AV × Nat)) ++ B).map some)[i]? = some c := by simpa using hcv
                have := tail i c hcv
                cases c with
                | none => exact this.elim
                | some z =>
                  obtain ⟨x, v, n⟩ := z
                  obtain ⟨e, e1, e2⟩ := this
                  refine ⟨e, ?_, e2⟩
                  rw [Array.getElem?_append_right (by simp)]; simpa using e1
            | cons z zs =>
              have hoe : old.isEmpty = false := by rw [← Array.isEmpty_toList, ← h3]; rfl
              simp only [hoe, Bool.false_eq_true, if_false]
              have hcv : ((z :: zs ++ B).map some)[i]? = some c := hcv
              have := tail i c hcv
              cases c with
              | none => exact this.elim
              | some z =>
                obtain ⟨x, v, n⟩ := z
                obtain ⟨e, e1, e2⟩ := this
                refine ⟨e, ?_, e2⟩
                simpa using e1
          obtain ⟨i, w1, hi, hw1, hch⟩ : ∃ i w1, i < cands.size ∧ (∃ n, w1 = { w with drawn := n }) ∧ (choose (.mapNext cands.size)).run P w = .ok i w1 := by
            by_cases hf : cands.size ≤ 1
            · refine ⟨0, w, pos, ⟨w.drawn, rfl⟩, ?_⟩
              show Sem.run P (.choose _ .pure) w = _
              simp [Sem.run, Question.forced, hf]
            · refine ⟨(Question.mapNext cands.size).cut (w.tape w.drawn (.mapNext cands.size)), { w with drawn := w.drawn + 1 }, Nat.mod_lt _ pos, ⟨_, rfl⟩, ?_⟩
              show Sem.run P (.choose _ .pure) w = _
              simp [Sem.run, Question.forced, hf]
          obtain ⟨n, rfl⟩ := hw1
          obtain ⟨c, hc1, hc2⟩ := at_ i hi
          have hk := e c (List.mem_of_getElem? hc1)
          have run : (Instr.next (.pointer (some ⟨b, 0 + 0, none⟩)) false ty).run P w = (match cands[i]? with
              | some (some e) => (do setObj b (.mapIter (some bm) since (seen.toArray.push e.born) clock); pure (.tuple #[.bool true, e.key, e.val]) : Sem Value)
              | some none => pure (.tuple #[.bool false])
              | none => stuck "Next: no such candidate").run P { w with drawn := n } := by
            simp only [Instr.next, Nat.zero_add, Sem.run_bind, getObj_run hh (by simp), Result.andThen_ok, getObj_run hhm (by simp), hst, Bool.false_eq_true, if_false]
            rw [← hleft, ← hold, ← hnew, ← hcands, hch]; rfl
          have hp0 := Post.drew hR n
          cases c with
          | none =>
            simp only at hc2 hk
            rcases hk with hk | ⟨es0, h1, h2, hs, hpm, hpr, hk⟩
            · refine ⟨_, h, _, _, hk, ?_, over, hp0⟩
              rw [run, hc2]; rfl
            · have p1 : Post μ h { w with drawn := n } μ h1 { w with drawn := n } := relabel hp0.rel hpm hmm (by rw [hgm]; rfl) ⟨rfl, es, clock, ces, hhm, hes, hs⟩
              have hgr : h1.get r = h.get r := by
                rw [(H.put_some hpm hR.wf).2.2.2.2.2 r, if_neg]
                intro er; subst er; rw [hg] at hgm; cases hgm
              have p2 : Post μ h1 { w with drawn := n } μ h2 { w with drawn := n } := relabel p1.rel hpr hm (by rw [hgr, hg]; rfl) trivial
              refine ⟨_, h2, _, _, hk, ?_, over, hp0.trans (p1.trans p2)⟩
              rw [run, hc2]; rfl
          | some z =>
            obtain ⟨x, v, n'⟩ := z
            obtain ⟨e', e1, e2, e3, e4⟩ := hc2
            simp only at hk
            split at hk
            · rename_i h' hput
              have hh' : ({ w with drawn := n } : World).heap[b]? = some (.mapIter (some bm) since seen.toArray last) := hh
              refine ⟨_, h', .tuple #[.bool true, e'.key, e'.val], _, hk, ?_, ?_, hp0.trans (obj_post hp0.rel hm (by rw [hg]; rfl) hput hh' (o' := .mapIter (some bm) since (seen.toArray.push e'.born) clock) (by simp) fun w' hw' => ⟨rfl, _, ?_, bm, hmm, rfl⟩)⟩
              · rw [run, e1]
                simp only [Sem.run_bind, setObj_run hh' (by simp), Result.andThen_ok, Sem.run_pure]
              · simp only [AV.rel]
                exact ⟨_, rfl, AV.relL_cons_cons.2 ⟨by simp [AV.rel], AV.relL_cons_cons.2 ⟨e2, AV.relL_cons_cons.2 ⟨e3, AV.relL_nil.2 rfl⟩⟩⟩⟩
              · rw [hw', lapp_eq, e4]; simp
            · exact hk.elim
      · exact e.elim
    · exact e.elim
  · exact e.elim

theorem entry_ok {h : H} {w : World} {it r : AV} {x : Value} (hR : Rel μ h w) (e : aEntry it h = some r) (ha : it.rel μ x) : ∃ v, (Instr.entry x).run P w = .ok v w ∧ r.rel μ v := by
  unfold aEntry at e
  split at e
  · rename_i i
    simp only [AV.rel] at ha
    obtain ⟨b, d, hm, rfl⟩ := ha
    have hb := hR.blk i b d hm
    split at e
    · rename_i m since seen last hg
      rw [hg] at hb
      obtain ⟨rfl, cm, hh, bm, hmm, rfl⟩ := hb
      split at e
      · rename_i es clock hgm
        have hbm := hR.blk m bm 0 hmm
        rw [hgm] at hbm
        obtain ⟨_, ces, hhm, hes⟩ := hbm
        split at e
        · rename_i n hclock hlast
          rw [Nat.beq_eq] at hclock; subst hclock
          split at e
          · rename_i k v q hfind
            injection e with e; subst e
            obtain ⟨e', f1, f2, f3⟩ := EsRel.find (q := fun e : MapEntry => e.born == n) (fun k v n' e he => by subst he; rw [Bool.eq_iff_iff, Nat.beq_eq, beq_iff_eq]) hes hfind
            refine ⟨.tuple #[e'.key, e'.val], ?_, by simp only [AV.rel]; exact ⟨_, rfl, AV.relL_cons_cons.2 ⟨f2, AV.relL_cons_cons.2 ⟨f3, AV.relL_nil.2 rfl⟩⟩⟩⟩
            have hback : seen.toArray.back? = some n := by rw [← hlast]; simp
            have f1' : ces.find? (fun e => e.born == n) = some e' := by rw [← Array.find?_toList]; exact f1
            simp only [Instr.entry, Nat.zero_add, Sem.run_bind, getObj_run hh (by simp), Result.andThen_ok, hback, getObj_run hhm (by simp), bne_self_eq_false, Bool.false_eq_true, if_false, f1', Sem.run_pure]
          · cases e
        · cases e
      · cases e
    · cases e
  · cases e

include hT in
theorem assert_ok {xt a : TypeId} {ok : Bool} {x r : AV} {y : Value} (e : aAssert T a ok x = some r) (hx : x.rel μ y) : ∃ v, Yld P (Instr.typeAssert y xt a ok) v ∧ r.rel μ v := by
  unfold aAssert at e
  split at e
  · rename_i hc
    rw [Bool.and_eq_true, Bool.not_eq_true'] at hc
    obtain ⟨d, hd, hk⟩ := und_of hT (t := a) rfl hc.1
    have hni : ∀ ms, d ≠ .interface ms := fun ms e => by
      subst e
      have h1 := hc.1; have h2 := hc.2
      revert hk h1 h2
      cases (T a).kd <;> simp [KdRel, Kd.isIface, Kd.known]
    have zero : ∀ {z : AV}, aZero T a = some z → ∃ u, (∀ w, (zeroValue a).run P w = .ok u w) ∧ z.rel μ u := fun hz => by
      obtain ⟨u, h1, h2⟩ := zero_ok (μ := μ) hT hc.1 hz default
      obtain ⟨i, zz, i1, _, _, i2, _⟩ := (hT a hc.1).info
      have : ∀ w, (zeroValue a).run P w = .ok zz w := fun w => by simp [zeroValue, typeInfo, i1, i2]
      rw [this] at h1; injection h1 with h1; subst h1
      exact ⟨_, this, h2⟩
    split at e
    · rename_i t v
      simp only [AV.rel] at hx
      obtain ⟨u, rfl, hu⟩ := hx
      split at e
      · rename_i ht
        rw [Nat.beq_eq] at ht; subst ht
        injection e with e; subst e
        refine ⟨if ok then .tuple #[u, .bool true] else u, fun w => ?_, ?_⟩
        · cases d <;> first | exact absurd rfl (hni _) | simp [Instr.typeAssert, run_underlying hd]
        · cases ok with
          | false => exact hu
          | true => simp only [AV.rel]; exact ⟨_, rfl, AV.relL_cons_cons.2 ⟨hu, AV.relL_cons_cons.2 ⟨by simp [AV.rel], AV.relL_nil.2 rfl⟩⟩⟩
      · rename_i ht
        have ht' : ¬ t = a := fun h => by subst h; simp at ht
        split at e
        · split at e
          · rename_i z hz
            injection e with e; subst e
            obtain ⟨q, h1, h2⟩ := zero hz
            refine ⟨.tuple #[q, .bool false], fun w => ?_, by simp only [AV.rel]; exact ⟨_, rfl, AV.relL_cons_cons.2 ⟨h2, AV.relL_cons_cons.2 ⟨by simp [AV.rel], AV.relL_nil.2 rfl⟩⟩⟩⟩
            cases d <;> first | exact absurd rfl (hni _) | simp [Instr.typeAssert, run_underlying hd, ht', h1]
          · cases e
        · cases e
    · simp only [AV.rel] at hx; subst hx
      split at e
      · split at e
        · rename_i z hz
          injection e with e; subst e
          obtain ⟨q, h1, h2⟩ := zero hz
          refine ⟨.tuple #[q, .bool false], fun w => ?_, by simp only [AV.rel]; exact ⟨_, rfl, AV.relL_cons_cons.2 ⟨h2, AV.relL_cons_cons.2 ⟨by simp [AV.rel], AV.relL_nil.2 rfl⟩⟩⟩⟩
          cases d <;> first | exact absurd rfl (hni _) | simp [Instr.typeAssert, run_underlying hd, h1]
        · cases e
      · cases e
    · cases e
  · cases e

theorem zeros_num (n : Nat) : Str.of (List.replicate n 0) = ⟨n, 0⟩ := by
  have : ∀ n, Str.num (List.replicate n (0 : UInt8)) = 0 := fun n => by
    induction n with
    | zero => rfl
    | succ n ih => rw [List.replicate_succ, Str.num_cons, ih]; simp
  simp [Str.of, this]
include hT in
theorem makeSl_ok {t e : TypeId} {l c : AV} {vl vc : Value} {k : Blk} {f : Nat → AV} (ht : (T t).kd = .slice e) (hk : (T e).kd.known = true) (hz0 : (T e).size ≠ 0) (hbp : 0 < (T e).bytes) (hzl : (T e).zero.length = (T e).size)
    (h : aMakeSl T e l c = some (k, f)) (hl : l.rel μ vl) (hc : c.rel μ vc) : AOk P μ (Instr.makeSlice t vl vc) k f := by
  obtain ⟨_, h1, rfl⟩ := und_of hT ht rfl
  unfold aMakeSl at h
  split at h
  · rename_i l c
    simp only [AV.rel] at hl hc; subst hl hc
    rw [Str.brec] at h
    split at h
    · rename_i hb
      have hb : (Nat.ble l c && Nat.ble (Nat.mul (T e).bytes c) 140737488355328) = true := hb
      rw [Bool.and_eq_true, ble_iff, ble_iff, Nat.mul_eq] at hb
      split at h
      · rename_i k' hrow
        injection h with h; injection h with e1 e2; subst e1 e2
        intro w
        obtain ⟨i, z, e1, _, eb, e2, hzr, _⟩ := (hT e hk).info
        have key : ∀ w, (zeroValue e).run P w = .ok z w := fun w => by simp [zeroValue, typeInfo, e1, e2]
        have hzs : z.cells.size = (T e).size := by have := AV.relL_length hzr; rw [← hzl, ← this]; simp
        obtain ⟨vs, hvs⟩ : ∃ vs, vs = (Array.range (c * (T e).size)).map ((if c * (T e).size = 0 then #[] else z.cells)[· % (if c * (T e).size = 0 then (#[] : Array Value) else z.cells).size]!) := ⟨_, rfl⟩
        have hvl : vs.size = c * (T e).size := by rw [hvs]; simp
        have hrel : AV.relL μ (lrep c (T e).zero) vs.toList := by
          rw [hvs]
          split
          · rename_i h0
            have hc0 : c = 0 := by rcases Nat.mul_eq_zero.1 h0 with h0 | h0; exact h0; exact absurd h0 hz0
            subst hc0; simp; exact AV.relL_nil.2 rfl
          · exact zeros_rel (AV.relL_mono noMu_le _ _ hzr) hzs hz0
        have hnew : k'.live = true ∧ ∀ (μ' : Mu), Le μ μ' → BlkRel μ' { w with heap := w.heap.push (.cells vs e (0, 0)) } w.heap.size 0 k' := by
          unfold mkRow at hrow
          split at hrow
          · split at hrow
            · rename_i hzz
              injection hrow with hrow; subst hrow
              refine ⟨rfl, fun μ' _ => ⟨vs, (0, 0), List.replicate c 0, by simp, (zeros_num c).symm, fun i x hx => ?_, fun o _ _ h => by omega, fun _ => .inl rfl⟩⟩
              rw [hzz] at hrel
              have h0 : (lrep c [AV.int .u8 (.ofNat 0)])[i]? = some (.int .u8 (.ofNat 0)) := by
                have hi : i < c := by have := (List.getElem?_eq_some_iff.1 hx).1; simpa using this
                have : ∀ n, lrep n [AV.int .u8 (.ofNat 0)] = List.replicate n (.int .u8 (.ofNat 0)) := fun n => by
                  induction n with
                  | zero => rfl
                  | succ n ih => rw [lrep_succ, ih, List.replicate_succ]; rfl
                rw [this]; simp [hi]
              obtain ⟨u, hu, hu2⟩ := AV.relL_get hrel i _ h0
              simp only [AV.rel] at hu2
              have hx0 : x = 0 := by have := List.mem_of_getElem? hx; simp at this; exact this.2
              subst hx0
              rw [Array.getElem?_toList] at hu
              rw [Nat.zero_add, hu, hu2]; rfl
            · cases hrow
          · injection hrow with hrow; subst hrow
            exact ⟨rfl, fun μ' hm => cells_new rfl hrel μ' hm⟩
        refine ⟨.slice (some ⟨w.heap.size, 0, none⟩) l c, .cells vs e (0, 0), { w with heap := w.heap.push (.cells vs e (0, 0)) }, ?_, rfl, rfl, rfl, rfl, hnew.2, hnew.1, ?_⟩
        · have hc1 : c ≤ 140737488355328 := Nat.le_trans (by have := Nat.mul_le_mul_right c (show 1 ≤ (T e).bytes from hbp); omega) hb.2
          have wc : IntKind.i64.wrap (Int.ofNat c) = Int.ofNat c := wrap_nat _ _ (by show c < 9223372036854775808; omega)
          have wl : IntKind.i64.wrap (Int.ofNat l) = Int.ofNat l := wrap_nat _ _ (by show l < 9223372036854775808; omega)
          have hti : ∀ w, (typeInfo e).run P w = .ok i w := fun w => by simp [typeInfo, e1]
          have c1 : (decide (Int.ofNat c < 0) || decide ((i.bytes : Int) * Int.ofNat c > 2 ^ 48)) = false := by
            rw [eb]
            have : ((T e).bytes : Int) * Int.ofNat c = (((T e).bytes * c : Nat) : Int) := by simp
            rw [this]
            have h2 := hb.2
            simp; omega
          have c2 : decide (Int.ofNat l < 0) = false := by simp
          have c3 : decide (Int.ofNat l > Int.ofNat c) = false := by simp; exact hb.1
          have room : (askRoom (c * i.bytes)).run P w = .ok () w := by
            have : ¬ (c * i.bytes > roomBytes) := by rw [eb, Nat.mul_comm]; have := hb.2; unfold roomBytes; omega
            simp only [askRoom, this, if_false, Sem.run_pure]
          simp only [Instr.makeSlice, Sem.run_bind, run_underlying h1, Result.andThen_ok, asInt, asIntOf, Sem.run_pure, hti, wc, wl, c1, c2, c3, Bool.or_self, Bool.false_eq_true, if_false]
          rw [show (Int.ofNat c).toNat = c from rfl, room]
          simp only [Result.andThen_ok, size_run hT hk]
          split
          · rename_i h0
            rw [if_pos h0] at hvs
            simp only [Sem.run_bind, Sem.run_pure, Result.andThen_ok, newRow, run_newObj, ← hvs]; rfl
          · rename_i h0
            rw [if_neg h0] at hvs
            simp only [Sem.run_bind, Sem.run_pure, key w, Result.andThen_ok, newRow, run_newObj, ← hvs]; rfl
        · refine ⟨_, _, _, rfl, fun m μ' hm hsz => ?_⟩
          simp only [AV.rel]; exact ⟨_, _, _, _, hm, rfl, fun _ => rfl, Nat.le_refl _, fun _ => rfl, hb.1, Nat.le_refl _, by rw [hsz, hvl]; omega⟩
      · cases h
    · cases h
  · cases h
end
end Go.Am
