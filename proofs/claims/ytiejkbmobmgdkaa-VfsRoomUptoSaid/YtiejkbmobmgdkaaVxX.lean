/- The law VfsFuse, walked: with a fuse of n just n more raw steps are done. No condition. -/
import Derived.Test.YtiejkbmobmgdkaaPxF
import Derived.Test.YtiejkbmobmgdkaaVxV
namespace Go.Am
open Go
set_option linter.all false
/-- an act that came in -/
structure ActE where
  kind : Int
  name : List UInt8
  other : List UInt8
  n : Int
  t : Int
  bv : AV
  bs : List UInt8
def ActE.cells (a : ActE) : List AV := [.int .i64 a.kind, .str (Str.of a.name), .str (Str.of a.other), .int .i64 a.n, .int .i64 a.t, a.bv]
structure Acts (h : H) (v : AV) (L : List ActE) : Prop where
  row : (v = .nils ∧ L = []) ∨ ∃ id tt cap ex, v = .slice id 0 L.length cap 6 ex ∧ id < h.base ∧ h.get id = .cells true tt (L.flatMap ActE.cells)
  els : ∀ p ∈ L, SlB h p.bv p.bs
  len : L.length < 4611686018427387904
theorem Acts.only {Q : Nat → Prop} {h h' : H} {v : AV} {L : List ActE} (p : Acts h v L) (o : Only Q h h') (hq : ∀ i, i < h.base → ¬ Q i) : Acts h' v L := by
  refine ⟨?_, fun q hq => (p.els q hq).only o, p.len⟩
  rcases p.row with c | ⟨id, tt, cap, ex, h1, h2, h3⟩
  · exact .inl c
  · exact .inr ⟨id, tt, cap, ex, h1, by rw [o.base]; exact h2, o.at h3 rfl (hq id h2)⟩
theorem Acts.lenK {h : H} {v : AV} {L : List ActE} (p : Acts h v L) (k : Nat → Prop) : Am.lenK v k = k L.length := by
  rcases p.row with ⟨rfl, rfl⟩ | ⟨id, tt, cap, ex, rfl, h2, h3⟩ <;> rfl
theorem flat6 : ∀ {L : List ActE} {i j : Nat} (hi : i < L.length) (_ : j < 6), (L.flatMap ActE.cells)[i * 6 + j]? = (L[i].cells)[j]?
  | a :: L, 0, j, _, hj => by
    rw [List.flatMap_cons, List.getElem?_append_left (by show 0 * 6 + j < 6; omega)]
    simp
  | a :: L, i + 1, j, hi, hj => by
    have ih := flat6 (L := L) (i := i) (j := j) (by simpa using hi) hj
    rw [List.flatMap_cons, List.getElem?_append_right (by show 6 ≤ _; omega)]
    rw [show (i + 1) * 6 + j - a.cells.length = i * 6 + j by show (i + 1) * 6 + j - 6 = _; omega, ih]
    rfl
theorem lgetO_flat {L : List ActE} {i j : Nat} (hi : i < L.length) (hj : j < 6) : lgetO (L.flatMap ActE.cells) (i * 6 + j) = (L[i].cells)[j]? := by
  have e := flat6 hi hj
  have hlt : i * 6 + j < (L.flatMap ActE.cells).length := by
    have : (L[i].cells)[j]? = some (L[i].cells[j]'(by show j < 6; exact hj)) := List.getElem?_eq_getElem _
    rw [this] at e
    exact (List.getElem?_eq_some_iff.1 e).1
  rw [lgetO_get hlt, ← e, List.getElem?_eq_getElem hlt]
theorem Acts.read {h : H} {v : AV} {L : List ActE} (p : Acts h v L) {i : Nat} (hi : i < L.length) {kk : IntKind} {k : AV → Prop}
    (hk : ∀ id tt, h.get id = .cells true tt (L.flatMap ActE.cells) → k (.ptr id (i * 6))) : ixK 6 v (.int kk (Int.ofNat i)) k := by
  rcases p.row with ⟨rfl, rfl⟩ | ⟨id, tt, cap, ex, rfl, h2, h3⟩
  · simp at hi
  · unfold ixK
    rw [asSl_slice, asNat_int, (blt_iff _ _).2 hi, ck_t]
    show fN (0 + i * 6) _
    rw [fN_eq, Nat.zero_add]
    exact hk id tt h3
theorem faK_n {off i o n : Nat} {k : AV → Prop} (e : Nat.add o off = n) (q : k (.ptr i n)) : faK off (.ptr i o) k := by rw [faK_ptr, e]; exact q
theorem ldS_r {h : H} {id tt o : Nat} {L : List ActE} {i j : Nat} {s : List UInt8} {k : Str → Prop} (g : h.get id = .cells true tt (L.flatMap ActE.cells)) (hi : i < L.length) (hj : j < 6) (ho : o = i * 6 + j) (e : (L[i].cells)[j]? = some (.str (Str.of s))) (q : k (Str.of s)) : ldS (.ptr id o) h k := by
  rw [ho, ldS_at g ((lgetO_flat hi hj).trans e)]; exact q
theorem ldV_r {h : H} {id tt o : Nat} {L : List ActE} {i j : Nat} {s : AV} {k : AV → Prop} (g : h.get id = .cells true tt (L.flatMap ActE.cells)) (hi : i < L.length) (hj : j < 6) (ho : o = i * 6 + j) (e : (L[i].cells)[j]? = some s) (q : k s) : ldV (.ptr id o) h k := by
  rw [ho, ldV_at g ((lgetO_flat hi hj).trans e)]; exact q
def smallA (a : ActE) : Bool := decide (a.bs.length ≤ 400) && (decide (a.name.length ≤ 400) && decide (a.other.length ≤ 400))
def smallL (L : List ActE) : Bool := L.all smallA && decide (L.length ≤ 100)
end Go.Am
namespace Go.Proofs.Ytiejkbmobmgdkaa
open Go Go.Am
set_option linter.all false
set_option maxRecDepth 100000
theorem pl_r {h : H} {k : Bool → H → Prop} (q : k true h) : pLives h k := q
theorem p22 {x : Int} {n : Nat} {h : H} {k : Int → H → Prop} (hn : n ≠ 0) (hk : ∀ r, k r h) : s22 x (Int.ofNat n) h k := by
  show s22G J0 x _ h k
  unfold s22G
  refine ck_intro (nzb (by simp only [Int.ofNat_eq_natCast]; omega)) ?_
  refine fI_r ?_
  repeat with_reducible first | refine jn_r ?_ | refine brT_r ?_ | refine brF_r ?_ | refine pickT_r ?_ | refine pickF_r ?_ | refine asB_r ?_ | refine asI_r ?_ | refine asBUb_r ?_ | refine asBUs_r ?_ | refine lv_r ?_ | refine jd_r ?_
  refine fB_r ?_
  refine br_intro (fun _ => ?_) fun _ => ?_
  · refine fI_r ?_
    repeat with_reducible first | refine jn_r ?_ | refine brT_r ?_ | refine brF_r ?_ | refine pickT_r ?_ | refine pickF_r ?_ | refine asB_r ?_ | refine asI_r ?_ | refine asBUb_r ?_ | refine asBUs_r ?_ | refine lv_r ?_ | refine jd_r ?_
    exact hk _
  · repeat with_reducible first | refine jn_r ?_ | refine brT_r ?_ | refine brF_r ?_ | refine pickT_r ?_ | refine pickF_r ?_ | refine asB_r ?_ | refine asI_r ?_ | refine asBUb_r ?_ | refine asBUs_r ?_ | refine lv_r ?_ | refine jd_r ?_
    exact hk _
theorem p23 {h : H} {v : AV} {L : List ActE} {k : Bool → H → Prop} (p : Acts h v L) (hk : k (smallL L) h) : s23 v h k := by
  show s23G J0 v h k
  unfold s23G
  refine lp_rule (fun m u d h' => ∃ i, m = L.length - i ∧ i ≤ L.length ∧ u = (v, .int .i64 (Int.ofNat i), ()) ∧ d = [] ∧ h' = h ∧ ∀ j (hj : j < L.length), j < i → smallA L[j] = true) (fun m self u d hc inv next => ?_) (n := L.length) p.len ⟨0, rfl, Nat.zero_le _, rfl, rfl, rfl, fun j _ hj => absurd hj (Nat.not_lt_zero _)⟩
  have hlen := p.len
  obtain ⟨i, rfl, hi, rfl, rfl, rfl, hj⟩ := inv
  dsimp only
  refine (p.lenK _).mpr ?_
  repeat with_reducible first | refine jn_r ?_ | refine brT_r ?_ | refine brF_r ?_ | refine pickT_r ?_ | refine pickF_r ?_ | refine asB_r ?_ | refine asI_r ?_ | refine asBUb_r ?_ | refine asBUs_r ?_ | refine lv_r ?_ | refine jd_r ?_
  by_cases h2 : i < L.length
  rotate_left
  · refine fBE_r (ltI_nat'.2 (Nat.not_lt.1 h2)) ?_
    repeat with_reducible first | refine jn_r ?_ | refine brT_r ?_ | refine brF_r ?_ | refine pickT_r ?_ | refine pickF_r ?_ | refine asB_r ?_ | refine asI_r ?_ | refine asBUb_r ?_ | refine asBUs_r ?_ | refine lv_r ?_ | refine jd_r ?_
    refine (p.lenK _).mpr ?_
    refine fB_r ?_
    repeat with_reducible first | refine jn_r ?_ | refine brT_r ?_ | refine brF_r ?_ | refine pickT_r ?_ | refine pickF_r ?_ | refine asB_r ?_ | refine asI_r ?_ | refine asBUb_r ?_ | refine asBUs_r ?_ | refine lv_r ?_ | refine jd_r ?_
    have ha : L.all smallA = true := List.all_eq_true.2 fun a ha => by
      obtain ⟨j, hj1, rfl⟩ := List.mem_iff_getElem.1 ha
      exact hj j hj1 (by omega)
    have : smallL L = Bool.not (ltI (Int.ofNat 100) (Int.ofNat L.length)) := by
      unfold smallL; rw [ha]
      by_cases hl : L.length ≤ 100
      · rw [decide_eq_true hl, show ltI (Int.ofNat 100) (Int.ofNat L.length) = false from ltI_nat'.2 hl]; rfl
      · rw [decide_eq_false hl, show ltI (Int.ofNat 100) (Int.ofNat L.length) = true from ltI_nat.2 (by omega)]; rfl
    rw [← this]; exact hk
  refine fBE_r (ltI_nat.2 h2) ?_
  have no : smallA L[i] = false → smallL L = false := fun q => by
    unfold smallL
    rw [show L.all smallA = false from List.all_eq_false.2 ⟨L[i], List.getElem_mem h2, by rw [q]; simp⟩]; rfl
  repeat with_reducible first | refine jn_r ?_ | refine brT_r ?_ | refine brF_r ?_ | refine pickT_r ?_ | refine pickF_r ?_ | refine asB_r ?_ | refine asI_r ?_ | refine asBUb_r ?_ | refine asBUs_r ?_ | refine lv_r ?_ | refine jd_r ?_
  refine p.read h2 fun id tt hg => ?_
  refine faK_n (n := i * 6 + 5) rfl ?_
  refine ldV_r hg h2 (j := 5) (by omega) rfl rfl ?_
  have hel := p.els L[i] (List.getElem_mem h2)
  refine (hel.len _).mpr ?_
  by_cases c1 : L[i].bs.length ≤ 400
  rotate_left
  · refine fBE_r (ltI_nat.2 (show 400 < L[i].bs.length by omega)) ?_
    repeat with_reducible first | refine jn_r ?_ | refine brT_r ?_ | refine brF_r ?_ | refine pickT_r ?_ | refine pickF_r ?_ | refine asB_r ?_ | refine asI_r ?_ | refine asBUb_r ?_ | refine asBUs_r ?_ | refine lv_r ?_ | refine jd_r ?_
    rw [no (by unfold smallA; rw [decide_eq_false c1]; rfl)] at hk
    exact hk
  refine fBE_r (ltI_nat'.2 c1) ?_
  repeat with_reducible first | refine jn_r ?_ | refine brT_r ?_ | refine brF_r ?_ | refine pickT_r ?_ | refine pickF_r ?_ | refine asB_r ?_ | refine asI_r ?_ | refine asBUb_r ?_ | refine asBUs_r ?_ | refine lv_r ?_ | refine jd_r ?_
  refine p.read h2 fun id1 tt1 hg1 => ?_
  repeat with_reducible first | refine jn_r ?_ | refine brT_r ?_ | refine brF_r ?_ | refine pickT_r ?_ | refine pickF_r ?_ | refine asB_r ?_ | refine asI_r ?_ | refine asBUb_r ?_ | refine asBUs_r ?_ | refine lv_r ?_ | refine jd_r ?_
  refine faK_n (n := i * 6 + 1) rfl ?_
  repeat with_reducible first | refine jn_r ?_ | refine brT_r ?_ | refine brF_r ?_ | refine pickT_r ?_ | refine pickF_r ?_ | refine asB_r ?_ | refine asI_r ?_ | refine asBUb_r ?_ | refine asBUs_r ?_ | refine lv_r ?_ | refine jd_r ?_
  refine ldS_r hg1 h2 (j := 1) (by omega) rfl rfl ?_
  repeat with_reducible first | refine jn_r ?_ | refine brT_r ?_ | refine brF_r ?_ | refine pickT_r ?_ | refine pickF_r ?_ | refine asB_r ?_ | refine asI_r ?_ | refine asBUb_r ?_ | refine asBUs_r ?_ | refine lv_r ?_ | refine jd_r ?_
  refine asS_r ?_
  repeat with_reducible first | refine jn_r ?_ | refine brT_r ?_ | refine brF_r ?_ | refine pickT_r ?_ | refine pickF_r ?_ | refine asB_r ?_ | refine asI_r ?_ | refine asBUb_r ?_ | refine asBUs_r ?_ | refine lv_r ?_ | refine jd_r ?_
  by_cases c2 : L[i].name.length ≤ 400
  rotate_left
  · refine fBE_r (ltI_nat.2 (show 400 < L[i].name.length by omega)) ?_
    repeat with_reducible first | refine jn_r ?_ | refine brT_r ?_ | refine brF_r ?_ | refine pickT_r ?_ | refine pickF_r ?_ | refine asB_r ?_ | refine asI_r ?_ | refine asBUb_r ?_ | refine asBUs_r ?_ | refine lv_r ?_ | refine jd_r ?_
    rw [no (by unfold smallA; rw [decide_eq_false c2]; simp)] at hk
    exact hk
  refine fBE_r (ltI_nat'.2 c2) ?_
  repeat with_reducible first | refine jn_r ?_ | refine brT_r ?_ | refine brF_r ?_ | refine pickT_r ?_ | refine pickF_r ?_ | refine asB_r ?_ | refine asI_r ?_ | refine asBUb_r ?_ | refine asBUs_r ?_ | refine lv_r ?_ | refine jd_r ?_
  refine p.read h2 fun id2 tt2 hg2 => ?_
  repeat with_reducible first | refine jn_r ?_ | refine brT_r ?_ | refine brF_r ?_ | refine pickT_r ?_ | refine pickF_r ?_ | refine asB_r ?_ | refine asI_r ?_ | refine asBUb_r ?_ | refine asBUs_r ?_ | refine lv_r ?_ | refine jd_r ?_
  refine faK_n (n := i * 6 + 2) rfl ?_
  repeat with_reducible first | refine jn_r ?_ | refine brT_r ?_ | refine brF_r ?_ | refine pickT_r ?_ | refine pickF_r ?_ | refine asB_r ?_ | refine asI_r ?_ | refine asBUb_r ?_ | refine asBUs_r ?_ | refine lv_r ?_ | refine jd_r ?_
  refine ldS_r hg2 h2 (j := 2) (by omega) rfl rfl ?_
  repeat with_reducible first | refine jn_r ?_ | refine brT_r ?_ | refine brF_r ?_ | refine pickT_r ?_ | refine pickF_r ?_ | refine asB_r ?_ | refine asI_r ?_ | refine asBUb_r ?_ | refine asBUs_r ?_ | refine lv_r ?_ | refine jd_r ?_
  refine asS_r ?_
  repeat with_reducible first | refine jn_r ?_ | refine brT_r ?_ | refine brF_r ?_ | refine pickT_r ?_ | refine pickF_r ?_ | refine asB_r ?_ | refine asI_r ?_ | refine asBUb_r ?_ | refine asBUs_r ?_ | refine lv_r ?_ | refine jd_r ?_
  by_cases c3 : L[i].other.length ≤ 400
  rotate_left
  · refine fBE_r (ltI_nat.2 (show 400 < L[i].other.length by omega)) ?_
    repeat with_reducible first | refine jn_r ?_ | refine brT_r ?_ | refine brF_r ?_ | refine pickT_r ?_ | refine pickF_r ?_ | refine asB_r ?_ | refine asI_r ?_ | refine asBUb_r ?_ | refine asBUs_r ?_ | refine lv_r ?_ | refine jd_r ?_
    rw [no (by unfold smallA; rw [decide_eq_false c3]; simp)] at hk
    exact hk
  refine fBE_r (ltI_nat'.2 c3) ?_
  repeat with_reducible first | refine jn_r ?_ | refine brT_r ?_ | refine brF_r ?_ | refine pickT_r ?_ | refine pickF_r ?_ | refine asB_r ?_ | refine asI_r ?_ | refine asBUb_r ?_ | refine asBUs_r ?_ | refine lv_r ?_ | refine jd_r ?_
  rw [inc_nat (by omega)]
  refine fI_r ?_
  refine next (L.length - (i + 1)) _ _ _ (by omega) ⟨i + 1, rfl, h2, rfl, rfl, rfl, fun j hj1 hj2 => ?_⟩
  by_cases e : j = i
  · subst e; unfold smallA; rw [decide_eq_true c1, decide_eq_true c2, decide_eq_true c3]; rfl
  · exact hj j hj1 (by omega)
end Go.Proofs.Ytiejkbmobmgdkaa
