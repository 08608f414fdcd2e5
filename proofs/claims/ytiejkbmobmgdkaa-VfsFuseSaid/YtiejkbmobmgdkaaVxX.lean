/- The law VfsFuse, walked: with a fuse of n just n more raw steps are done. No condition. -/
import Derived.Test.YtiejkbmobmgdkaaPxF
import Derived.Test.YtiejkbmobmgdkaaVxV
namespace Go.Am
open Go
set_option linter.all false
/-- an act that came in -/
structure ActE where
  kind : Int
  name : List UInt8
  other : List UInt8
  n : Int
  t : Int
  bv : AV
  bs : List UInt8
def ActE.cells (a : ActE) : List AV := [.int .i64 a.kind, .str (Str.of a.name), .str (Str.of a.other), .int .i64 a.n, .int .i64 a.t, a.bv]
structure Acts (h : H) (v : AV) (L : List ActE) : Prop where
  row : (v = .nils ∧ L = []) ∨ ∃ id tt cap ex, v = .slice id 0 L.length cap 6 ex ∧ id < h.base ∧ h.get id = .cells true tt (L.flatMap ActE.cells)
  els : ∀ p ∈ L, SlB h p.bv p.bs
  len : L.length < 4611686018427387904
theorem Acts.only {Q : Nat → Prop} {h h' : H} {v : AV} {L : List ActE} (p : Acts h v L) (o : Only Q h h') (hq : ∀ i, i < h.base → ¬ Q i) : Acts h' v L := by
  refine ⟨?_, fun q hq => (p.els q hq).only o, p.len⟩
  rcases p.row with c | ⟨id, tt, cap, ex, h1, h2, h3⟩
  · exact .inl c
  · exact .inr ⟨id, tt, cap, ex, h1, by rw [o.base]; exact h2, o.at h3 rfl (hq id h2)⟩
theorem Acts.lenK {h : H} {v : AV} {L : List ActE} (p : Acts h v L) (k : Nat → Prop) : Am.lenK v k = k L.length := by
  rcases p.row with ⟨rfl, rfl⟩ | ⟨id, tt, cap, ex, rfl, h2, h3⟩ <;> rfl
theorem flat6 : ∀ {L : List ActE} {i j : Nat} (hi : i < L.length) (_ : j < 6), (L.flatMap ActE.cells)[i * 6 + j]? = (L[i].cells)[j]?
  | a :: L, 0, j, _, hj => by
    rw [List.flatMap_cons, List.getElem?_append_left (by show 0 * 6 + j < 6; omega)]
    simp
  | a :: L, i + 1, j, hi, hj => by
    have ih := flat6 (L := L) (i := i) (j := j) (by simpa using hi) hj
    rw [List.flatMap_cons, List.getElem?_append_right (by show 6 ≤ _; omega)]
    rw [show (i + 1) * 6 + j - a.cells.length = i * 6 + j by show (i + 1) * 6 + j - 6 = _; omega, ih]
    rfl
theorem lgetO_flat {L : List ActE} {i j : Nat} (hi : i < L.length) (hj : j < 6) : lgetO (L.flatMap ActE.cells) (i * 6 + j) = (L[i].cells)[j]? := by
  have e := flat6 hi hj
  have hlt : i * 6 + j < (L.flatMap ActE.cells).length := by
    have : (L[i].cells)[j]? = some (L[i].cells[j]'(by show j < 6; exact hj)) := List.getElem?_eq_getElem _
    rw [this] at e
    exact (List.getElem?_eq_some_iff.1 e).1
  rw [lgetO_get hlt, ← e, List.getElem?_eq_getElem hlt]
theorem Acts.read {h : H} {v : AV} {L : List ActE} (p : Acts h v L) {i : Nat} (hi : i < L.length) {kk : IntKind} {k : AV → Prop}
    (hk : ∀ id tt, h.get id = .cells true tt (L.flatMap ActE.cells) → k (.ptr id (i * 6))) : ixK 6 v (.int kk (Int.ofNat i)) k := by
  rcases p.row with ⟨rfl, rfl⟩ | ⟨id, tt, cap, ex, rfl, h2, h3⟩
  · simp at hi
  · unfold ixK
    rw [asSl_slice, asNat_int, (blt_iff _ _).2 hi, ck_t]
    show fN (0 + i * 6) _
    rw [fN_eq, Nat.zero_add]
    exact hk id tt h3
theorem faK_n {off i o n : Nat} {k : AV → Prop} (e : Nat.add o off = n) (q : k (.ptr i n)) : faK off (.ptr i o) k := by rw [faK_ptr, e]; exact q
theorem ldS_r {h : H} {id tt o : Nat} {L : List ActE} {i j : Nat} {s : List UInt8} {k : Str → Prop} (g : h.get id = .cells true tt (L.flatMap ActE.cells)) (hi : i < L.length) (hj : j < 6) (ho : o = i * 6 + j) (e : (L[i].cells)[j]? = some (.str (Str.of s))) (q : k (Str.of s)) : ldS (.ptr id o) h k := by
  rw [ho, ldS_at g ((lgetO_flat hi hj).trans e)]; exact q
theorem ldI_r {h : H} {id tt o : Nat} {L : List ActE} {i j : Nat} {s : Int} {k : Int → Prop} (g : h.get id = .cells true tt (L.flatMap ActE.cells)) (hi : i < L.length) (hj : j < 6) (ho : o = i * 6 + j) (e : (L[i].cells)[j]? = some (.int .i64 s)) (q : k s) : ldI .i64 (.ptr id o) h k := by
  rw [ho, ldI_at g ((lgetO_flat hi hj).trans e)]; exact q
theorem ldV_r {h : H} {id tt o : Nat} {L : List ActE} {i j : Nat} {s : AV} {k : AV → Prop} (g : h.get id = .cells true tt (L.flatMap ActE.cells)) (hi : i < L.length) (hj : j < 6) (ho : o = i * 6 + j) (e : (L[i].cells)[j]? = some s) (q : k s) : ldV (.ptr id o) h k := by
  rw [ho, ldV_at g ((lgetO_flat hi hj).trans e)]; exact q
def smallA (a : ActE) : Bool := decide (a.bs.length ≤ 400) && (decide (a.name.length ≤ 400) && decide (a.other.length ≤ 400))
def smallL (L : List ActE) : Bool := L.all smallA && decide (L.length ≤ 100)
end Go.Am
namespace Go.Proofs.Ytiejkbmobmgdkaa
open Go Go.Am
set_option linter.all false
set_option maxRecDepth 100000
theorem pl_r {h : H} {k : Bool → H → Prop} (q : k true h) : pLives h k := q
theorem p22 {x : Int} {n : Nat} {h : H} {k : Int → H → Prop} (hn : n ≠ 0) (hk : ∀ r, k r h) : s22 x (Int.ofNat n) h k := by
  show s22G J0 x _ h k
  unfold s22G
  refine ck_intro (nzb (by simp only [Int.ofNat_eq_natCast]; omega)) ?_
  refine fI_r ?_
  repeat with_reducible first | refine jn_r ?_ | refine brT_r ?_ | refine brF_r ?_ | refine pickT_r ?_ | refine pickF_r ?_ | refine asB_r ?_ | refine asI_r ?_ | refine asBUb_r ?_ | refine asBUs_r ?_ | refine lv_r ?_ | refine jd_r ?_
  refine fB_r ?_
  refine br_intro (fun _ => ?_) fun _ => ?_
  · refine fI_r ?_
    repeat with_reducible first | refine jn_r ?_ | refine brT_r ?_ | refine brF_r ?_ | refine pickT_r ?_ | refine pickF_r ?_ | refine asB_r ?_ | refine asI_r ?_ | refine asBUb_r ?_ | refine asBUs_r ?_ | refine lv_r ?_ | refine jd_r ?_
    exact hk _
  · repeat with_reducible first | refine jn_r ?_ | refine brT_r ?_ | refine brF_r ?_ | refine pickT_r ?_ | refine pickF_r ?_ | refine asB_r ?_ | refine asI_r ?_ | refine asBUb_r ?_ | refine asBUs_r ?_ | refine lv_r ?_ | refine jd_r ?_
    exact hk _
theorem p23 {h : H} {v : AV} {L : List ActE} {k : Bool → H → Prop} (p : Acts h v L) (hk : k (smallL L) h) : s23 v h k := by
  show s23G J0 v h k
  unfold s23G
  refine lp_rule (fun m u d h' => ∃ i, m = L.length - i ∧ i ≤ L.length ∧ u = (v, .int .i64 (Int.ofNat i), ()) ∧ d = [] ∧ h' = h ∧ ∀ j (hj : j < L.length), j < i → smallA L[j] = true) (fun m self u d hc inv next => ?_) (n := L.length) p.len ⟨0, rfl, Nat.zero_le _, rfl, rfl, rfl, fun j _ hj => absurd hj (Nat.not_lt_zero _)⟩
  have hlen := p.len
  obtain ⟨i, rfl, hi, rfl, rfl, rfl, hj⟩ := inv
  dsimp only
  refine (p.lenK _).mpr ?_
  repeat with_reducible first | refine jn_r ?_ | refine brT_r ?_ | refine brF_r ?_ | refine pickT_r ?_ | refine pickF_r ?_ | refine asB_r ?_ | refine asI_r ?_ | refine asBUb_r ?_ | refine asBUs_r ?_ | refine lv_r ?_ | refine jd_r ?_
  by_cases h2 : i < L.length
  rotate_left
  · refine fBE_r (ltI_nat'.2 (Nat.not_lt.1 h2)) ?_
    repeat with_reducible first | refine jn_r ?_ | refine brT_r ?_ | refine brF_r ?_ | refine pickT_r ?_ | refine pickF_r ?_ | refine asB_r ?_ | refine asI_r ?_ | refine asBUb_r ?_ | refine asBUs_r ?_ | refine lv_r ?_ | refine jd_r ?_
    refine (p.lenK _).mpr ?_
    refine fB_r ?_
    repeat with_reducible first | refine jn_r ?_ | refine brT_r ?_ | refine brF_r ?_ | refine pickT_r ?_ | refine pickF_r ?_ | refine asB_r ?_ | refine asI_r ?_ | refine asBUb_r ?_ | refine asBUs_r ?_ | refine lv_r ?_ | refine jd_r ?_
    have ha : L.all smallA = true := List.all_eq_true.2 fun a ha => by
      obtain ⟨j, hj1, rfl⟩ := List.mem_iff_getElem.1 ha
      exact hj j hj1 (by omega)
    have : smallL L = Bool.not (ltI (Int.ofNat 100) (Int.ofNat L.length)) := by
      unfold smallL; rw [ha]
      by_cases hl : L.length ≤ 100
      · rw [decide_eq_true hl, show ltI (Int.ofNat 100) (Int.ofNat L.length) = false from ltI_nat'.2 hl]; rfl
      · rw [decide_eq_false hl, show ltI (Int.ofNat 100) (Int.ofNat L.length) = true from ltI_nat.2 (by omega)]; rfl
    rw [← this]; exact hk
  refine fBE_r (ltI_nat.2 h2) ?_
  have no : smallA L[i] = false → smallL L = false := fun q => by
    unfold smallL
    rw [show L.all smallA = false from List.all_eq_false.2 ⟨L[i], List.getElem_mem h2, by rw [q]; simp⟩]; rfl
  repeat with_reducible first | refine jn_r ?_ | refine brT_r ?_ | refine brF_r ?_ | refine pickT_r ?_ | refine pickF_r ?_ | refine asB_r ?_ | refine asI_r ?_ | refine asBUb_r ?_ | refine asBUs_r ?_ | refine lv_r ?_ | refine jd_r ?_
  refine p.read h2 fun id tt hg => ?_
  refine faK_n (n := i * 6 + 5) rfl ?_
  refine ldV_r hg h2 (j := 5) (by omega) rfl rfl ?_
  have hel := p.els L[i] (List.getElem_mem h2)
  refine (hel.len _).mpr ?_
  by_cases c1 : L[i].bs.length ≤ 400
  rotate_left
  · refine fBE_r (ltI_nat.2 (show 400 < L[i].bs.length by omega)) ?_
    repeat with_reducible first | refine jn_r ?_ | refine brT_r ?_ | refine brF_r ?_ | refine pickT_r ?_ | refine pickF_r ?_ | refine asB_r ?_ | refine asI_r ?_ | refine asBUb_r ?_ | refine asBUs_r ?_ | refine lv_r ?_ | refine jd_r ?_
    rw [no (by unfold smallA; rw [decide_eq_false c1]; rfl)] at hk
    exact hk
  refine fBE_r (ltI_nat'.2 c1) ?_
  repeat with_reducible first | refine jn_r ?_ | refine brT_r ?_ | refine brF_r ?_ | refine pickT_r ?_ | refine pickF_r ?_ | refine asB_r ?_ | refine asI_r ?_ | refine asBUb_r ?_ | refine asBUs_r ?_ | refine lv_r ?_ | refine jd_r ?_
  refine p.read h2 fun id1 tt1 hg1 => ?_
  repeat with_reducible first | refine jn_r ?_ | refine brT_r ?_ | refine brF_r ?_ | refine pickT_r ?_ | refine pickF_r ?_ | refine asB_r ?_ | refine asI_r ?_ | refine asBUb_r ?_ | refine asBUs_r ?_ | refine lv_r ?_ | refine jd_r ?_
  refine faK_n (n := i * 6 + 1) rfl ?_
  repeat with_reducible first | refine jn_r ?_ | refine brT_r ?_ | refine brF_r ?_ | refine pickT_r ?_ | refine pickF_r ?_ | refine asB_r ?_ | refine asI_r ?_ | refine asBUb_r ?_ | refine asBUs_r ?_ | refine lv_r ?_ | refine jd_r ?_
  refine ldS_r hg1 h2 (j := 1) (by omega) rfl rfl ?_
  repeat with_reducible first | refine jn_r ?_ | refine brT_r ?_ | refine brF_r ?_ | refine pickT_r ?_ | refine pickF_r ?_ | refine asB_r ?_ | refine asI_r ?_ | refine asBUb_r ?_ | refine asBUs_r ?_ | refine lv_r ?_ | refine jd_r ?_
  refine asS_r ?_
  repeat with_reducible first | refine jn_r ?_ | refine brT_r ?_ | refine brF_r ?_ | refine pickT_r ?_ | refine pickF_r ?_ | refine asB_r ?_ | refine asI_r ?_ | refine asBUb_r ?_ | refine asBUs_r ?_ | refine lv_r ?_ | refine jd_r ?_
  by_cases c2 : L[i].name.length ≤ 400
  rotate_left
  · refine fBE_r (ltI_nat.2 (show 400 < L[i].name.length by omega)) ?_
    repeat with_reducible first | refine jn_r ?_ | refine brT_r ?_ | refine brF_r ?_ | refine pickT_r ?_ | refine pickF_r ?_ | refine asB_r ?_ | refine asI_r ?_ | refine asBUb_r ?_ | refine asBUs_r ?_ | refine lv_r ?_ | refine jd_r ?_
    rw [no (by unfold smallA; rw [decide_eq_false c2]; simp)] at hk
    exact hk
  refine fBE_r (ltI_nat'.2 c2) ?_
  repeat with_reducible first | refine jn_r ?_ | refine brT_r ?_ | refine brF_r ?_ | refine pickT_r ?_ | refine pickF_r ?_ | refine asB_r ?_ | refine asI_r ?_ | refine asBUb_r ?_ | refine asBUs_r ?_ | refine lv_r ?_ | refine jd_r ?_
  refine p.read h2 fun id2 tt2 hg2 => ?_
  repeat with_reducible first | refine jn_r ?_ | refine brT_r ?_ | refine brF_r ?_ | refine pickT_r ?_ | refine pickF_r ?_ | refine asB_r ?_ | refine asI_r ?_ | refine asBUb_r ?_ | refine asBUs_r ?_ | refine lv_r ?_ | refine jd_r ?_
  refine faK_n (n := i * 6 + 2) rfl ?_
  repeat with_reducible first | refine jn_r ?_ | refine brT_r ?_ | refine brF_r ?_ | refine pickT_r ?_ | refine pickF_r ?_ | refine asB_r ?_ | refine asI_r ?_ | refine asBUb_r ?_ | refine asBUs_r ?_ | refine lv_r ?_ | refine jd_r ?_
  refine ldS_r hg2 h2 (j := 2) (by omega) rfl rfl ?_
  repeat with_reducible first | refine jn_r ?_ | refine brT_r ?_ | refine brF_r ?_ | refine pickT_r ?_ | refine pickF_r ?_ | refine asB_r ?_ | refine asI_r ?_ | refine asBUb_r ?_ | refine asBUs_r ?_ | refine lv_r ?_ | refine jd_r ?_
  refine asS_r ?_
  repeat with_reducible first | refine jn_r ?_ | refine brT_r ?_ | refine brF_r ?_ | refine pickT_r ?_ | refine pickF_r ?_ | refine asB_r ?_ | refine asI_r ?_ | refine asBUb_r ?_ | refine asBUs_r ?_ | refine lv_r ?_ | refine jd_r ?_
  by_cases c3 : L[i].other.length ≤ 400
  rotate_left
  · refine fBE_r (ltI_nat.2 (show 400 < L[i].other.length by omega)) ?_
    repeat with_reducible first | refine jn_r ?_ | refine brT_r ?_ | refine brF_r ?_ | refine pickT_r ?_ | refine pickF_r ?_ | refine asB_r ?_ | refine asI_r ?_ | refine asBUb_r ?_ | refine asBUs_r ?_ | refine lv_r ?_ | refine jd_r ?_
    rw [no (by unfold smallA; rw [decide_eq_false c3]; simp)] at hk
    exact hk
  refine fBE_r (ltI_nat'.2 c3) ?_
  repeat with_reducible first | refine jn_r ?_ | refine brT_r ?_ | refine brF_r ?_ | refine pickT_r ?_ | refine pickF_r ?_ | refine asB_r ?_ | refine asI_r ?_ | refine asBUb_r ?_ | refine asBUs_r ?_ | refine lv_r ?_ | refine jd_r ?_
  rw [inc_nat (by omega)]
  refine fI_r ?_
  refine next (L.length - (i + 1)) _ _ _ (by omega) ⟨i + 1, rfl, h2, rfl, rfl, rfl, fun j hj1 hj2 => ?_⟩
  by_cases e : j = i
  · subst e; unfold smallA; rw [decide_eq_true c1, decide_eq_true c2, decide_eq_true c3]; rfl
  · exact hj j hj1 (by omega)
noncomputable def tail6b (k : Bool → H → Prop) (v68 : AV × AV × AV × AV × AV × Unit) (x127 : Int) (d69 : List Dfr) (h159 : H) : Prop :=
s17' v68.2.2.1 (Int.ofNat 0) (Int.ofNat 0) h159 fun x165 h164 =>
fB (eqI x165 (Int.ofNat 0)) fun b166 =>
J0.jn (fun v167 h168 =>
J0.jn (fun v170 h171 =>
pickB (AV.bool b166) v170 (AV.bool false) fun b175 =>
J0.jn (fun v176 h177 =>
J0.jn (fun v179 h180 =>
J0.jn (fun v184 h185 =>
J0.jn (fun v187 h188 =>
J0.jn (fun v193 h194 =>
J0.jn (fun v196 h197 =>
pickB (AV.bool b175) v196 (AV.bool false) fun b202 =>
J0.jn (fun v203 h204 =>
J0.jn (fun v206 h207 =>
J0.jn (fun v211 h212 =>
pickB (AV.bool b202) v211 (AV.bool false) fun b216 =>
J0.jn (fun v217 h218 =>
J0.jn (fun v220 h221 =>
J0.jn (fun v225 h226 =>
pickB (AV.bool b216) v225 (AV.bool false) fun b230 =>
J0.jn (fun v231 h232 =>
J0.jn (fun v234 h235 =>
J0.jn (fun v239 h240 =>
J0.jn (fun v242 h243 =>
J0.jn (fun v248 h249 =>
J0.jn (fun v251 h252 =>
J0.jn (fun v256 h257 =>
pickB (AV.bool b230) v256 (AV.bool false) fun b262 =>
leaveK (gam J0 [(9, w9 pLives), (10, w10 s10), (11, w11 s11), (12, w12 s12), (13, w13 s13), (14, w14 s14), (16, w16 s16), (17, w17 s17'), (18, w18 s18), (22, w22 s22), (23, w23 s23), (24, w24 s24), (25, w25 s25), (28, w28 s28)]) d69 h257 fun h263 =>
k b262 h263) fun j258 =>
br b230 (
asI .i64 v242 fun x259 =>
asI .i64 v251 fun x260 =>
fB (eqI x259 x260) fun b261 =>
j258 (AV.bool b261) h252) (
j258 skipV h252)) fun j253 =>
br b230 (
asI .i64 v248 fun x254 =>
fI (wrapF .i64 (Int.add x254 (Int.ofNat 2))) fun x255 =>
j253 (AV.int .i64 x255) h249) (
j253 skipV h249)) fun j250 =>
br b230 (
j250 (AV.int .i64 x127) h243) (
j250 skipV h243)) fun j244 =>
br b230 (
asI .i64 v234 fun x245 =>
asI .i64 v239 fun x246 =>
fI (wrapF .i64 (Int.sub x245 x246)) fun x247 =>
j244 (AV.int .i64 x247) h240) (
j244 skipV h240)) fun j241 =>
br b230 (
j241 v68.2.2.2.1 h235) (
j241 skipV h235)) fun j236 =>
br b230 (
s28 v231 h232 fun x238 h237 =>
j236 (AV.int .i64 x238) h237) (
j236 skipV h232)) fun j233 =>
br b230 (
j233 v68.2.2.1 h226) (
j233 skipV h226)) fun j227 =>
br b216 (
asI .i64 v220 fun x228 =>
fB (eqI x228 (Int.ofNat 0)) fun b229 =>
j227 (AV.bool b229) h221) (
j227 skipV h221)) fun j222 =>
br b216 (
s12 v217 h218 fun x224 h223 =>
j222 (AV.int .i64 x224) h223) (
j222 skipV h218)) fun j219 =>
br b216 (
j219 v68.2.2.1 h212) (
j219 skipV h212)) fun j213 =>
br b202 (
asI .i64 v206 fun x214 =>
fB (eqI x214 (Int.ofNat 0)) fun b215 =>
j213 (AV.bool b215) h207) (
j213 skipV h207)) fun j208 =>
br b202 (
s12 v203 h204 fun x210 h209 =>
j208 (AV.int .i64 x210) h209) (
j208 skipV h204)) fun j205 =>
br b202 (
j205 v68.2.2.1 h197) (
j205 skipV h197)) fun j198 =>
br b175 (
asI .i64 v187 fun x199 =>
asI .i64 v193 fun x200 =>
fB (eqI x199 x200) fun b201 =>
j198 (AV.bool b201) h194) (
j198 skipV h194)) fun j195 =>
br b175 (
j195 (AV.int .i64 x127) h188) (
j195 skipV h188)) fun j189 =>
br b175 (
asI .i64 v179 fun x190 =>
asI .i64 v184 fun x191 =>
fI (wrapF .i64 (Int.sub x190 x191)) fun x192 =>
j189 (AV.int .i64 x192) h185) (
j189 skipV h185)) fun j186 =>
br b175 (
j186 v68.2.2.2.1 h180) (
j186 skipV h180)) fun j181 =>
br b175 (
s28 v176 h177 fun x183 h182 =>
j181 (AV.int .i64 x183) h182) (
j181 skipV h177)) fun j178 =>
br b175 (
j178 v68.2.2.1 h171) (
j178 skipV h171)) fun j172 =>
br b166 (
s18 v167 h168 fun b174 h173 =>
j172 (AV.bool b174) h173) (
j172 skipV h168)) fun j169 =>
br b166 (
j169 v68.2.2.1 h164) (
j169 skipV h164)
noncomputable def tail6 (k : Bool → H → Prop) (v68 : AV × AV × AV × AV × AV × Unit) (d69 : List Dfr) (h70 : H) : Prop :=
s28 v68.2.2.1 h70 fun x125 h124 =>
asI .i64 v68.2.2.2.1 fun x126 =>
fI (wrapF .i64 (Int.sub x125 x126)) fun x127 =>
asI .i64 v68.2.1 fun x128 =>
fB (ltI x128 x127) fun b129 =>
J0.jn (fun v130 h131 =>
J0.jn (fun v133 h134 =>
J0.jn (fun v138 h139 =>
J0.jn (fun v143 h144 =>
J0.jn (fun v146 h147 =>
J0.jn (fun v149 h150 =>
J0.jn (fun v152 h153 =>
J0.jn (fun v158 h159 =>
pickB (AV.bool b129) (AV.bool true) v158 fun b162 =>
br b162 (
leaveK (gam J0 [(9, w9 pLives), (10, w10 s10), (11, w11 s11), (12, w12 s12), (13, w13 s13), (14, w14 s14), (16, w16 s16), (17, w17 s17'), (18, w18 s18), (22, w22 s22), (23, w23 s23), (24, w24 s24), (25, w25 s25), (28, w28 s28)]) d69 h159 fun h163 =>
k false h163) (
tail6b k v68 x127 d69 h159)) fun j160 =>
br b129 (
j160 skipV h153) (
pickB v143 v152 (AV.bool false) fun b161 =>
j160 (AV.bool b161) h153)) fun j154 =>
asBU v143 (fun b264 =>
br b264 (
asI .i64 v146 fun x155 =>
asI .i64 v149 fun x156 =>
fB (Bool.not (eqI x155 x156)) fun b157 =>
j154 (AV.bool b157) h150) (
j154 skipV h150)) (
j154 skipV h150)) fun j151 =>
asBU v143 (fun b265 =>
br b265 (
j151 v68.2.1 h147) (
j151 skipV h147)) (
j151 skipV h147)) fun j148 =>
asBU v143 (fun b266 =>
br b266 (
j148 (AV.int .i64 x127) h144) (
j148 skipV h144)) (
j148 skipV h144)) fun j145 =>
br b129 (
j145 skipV h139) (
j145 v138 h139)) fun j140 =>
br b129 (
j140 skipV h134) (
asB v133 fun b141 =>
fB (Bool.not b141) fun b142 =>
j140 (AV.bool b142) h134)) fun j135 =>
br b129 (
j135 skipV h131) (
s18 v130 h131 fun b137 h136 =>
j135 (AV.bool b137) h136)) fun j132 =>
br b129 (
j132 skipV h124) (
j132 v68.2.2.1 h124)
noncomputable def rest6 (k : Bool → H → Prop) (a0 : AV) (a1 : Int) (v17 : AV) (x67 : Int) (h66 : H) : Prop :=
J0.lp (α := AV × AV × AV × AV × AV × Unit) (fun r71 v68 d69 h70 =>
lenK v68.1 fun x72 =>
asI .i64 v68.2.2.2.2.1 fun x73 =>
fB (ltI x73 (Int.ofNat x72)) fun b74 =>
br b74 (
J0.jd (α := AV × AV × AV × AV × AV × Unit) (fun v75 d76 h77 =>
asI .i64 v75.2.2.2.2.1 fun x79 =>
fI (wrapF .i64 (Int.add x79 (Int.ofNat 1))) fun x80 =>
r71 (v75.1, v75.2.1, v75.2.2.1, v75.2.2.2.1, (AV.int .i64 x80), ()) d76 h77) fun j78 =>
ixK 6 v68.1 v68.2.2.2.2.1 fun p81 =>
faK 0 p81 fun p82 =>
ldI .i64 p82 h70 fun x83 =>
s22 x83 (Int.ofNat 6) h70 fun x85 h84 =>
fB (eqI x85 (Int.ofNat 0)) fun b86 =>
br b86 (
ixK 6 v68.1 v68.2.2.2.2.1 fun p87 =>
faK 1 p87 fun p88 =>
ldS p88 h84 fun s89 =>
s11 v68.2.2.1 s89 h84 fun x91 h90 =>
j78 (v68.1, v68.2.1, v68.2.2.1, v68.2.2.2.1, v68.2.2.2.2.1, ()) d69 h90) (
fB (eqI x85 (Int.ofNat 1)) fun b92 =>
br b92 (
ixK 6 v68.1 v68.2.2.2.2.1 fun p93 =>
faK 1 p93 fun p94 =>
ldS p94 h84 fun s95 =>
ixK 6 v68.1 v68.2.2.2.2.1 fun p96 =>
faK 5 p96 fun p97 =>
ldV p97 h84 fun v98 =>
s16 v68.2.2.1 s95 v98 h84 fun x100 h99 =>
j78 (v68.1, v68.2.1, v68.2.2.1, v68.2.2.2.1, v68.2.2.2.2.1, ()) d69 h99) (
fB (eqI x85 (Int.ofNat 2)) fun b101 =>
br b101 (
ixK 6 v68.1 v68.2.2.2.2.1 fun p102 =>
faK 1 p102 fun p103 =>
ldS p103 h84 fun s104 =>
ixK 6 v68.1 v68.2.2.2.2.1 fun p105 =>
faK 2 p105 fun p106 =>
ldS p106 h84 fun s107 =>
s24 v68.2.2.1 s104 s107 h84 fun x109 h108 =>
j78 (v68.1, v68.2.1, v68.2.2.1, v68.2.2.2.1, v68.2.2.2.2.1, ()) d69 h108) (
fB (eqI x85 (Int.ofNat 3)) fun b110 =>
br b110 (
ixK 6 v68.1 v68.2.2.2.2.1 fun p111 =>
faK 1 p111 fun p112 =>
ldS p112 h84 fun s113 =>
s25 v68.2.2.1 s113 h84 fun x115 h114 =>
j78 (v68.1, v68.2.1, v68.2.2.1, v68.2.2.2.1, v68.2.2.2.2.1, ()) d69 h114) (
fB (eqI x85 (Int.ofNat 4)) fun b116 =>
br b116 (
ixK 6 v68.1 v68.2.2.2.2.1 fun p117 =>
faK 1 p117 fun p118 =>
ldS p118 h84 fun s119 =>
s14 v68.2.2.1 s119 h84 fun x121 h120 =>
j78 (v68.1, v68.2.1, v68.2.2.1, v68.2.2.2.1, v68.2.2.2.2.1, ()) d69 h120) (
s12 v68.2.2.1 h84 fun x123 h122 =>
j78 (v68.1, v68.2.1, v68.2.2.1, v68.2.2.2.1, v68.2.2.2.2.1, ()) d69 h122)))))) (
tail6 k v68 d69 h70)) (a0, (AV.int .i64 a1), v17, (AV.int .i64 x67), (AV.int .i64 (Int.ofNat 0)), ()) [] h66
/-- a round of VfsFuse -/
structure R6 (a0 : AV) (L : List ActE) (n was : Int) (P : Nat) (fs0 : Fs) (m : Nat) (v : AV × AV × AV × AV × AV × Unit) (d : List Dfr) (h : H) (i : Nat) (g : FsG) (fs : Fs) (N : Nat) : Prop where
  m : m = L.length - i
  le : i ≤ L.length
  v : v = (a0, .int .i64 n, .ptr P 0, .int .i64 was, .int .i64 (Int.ofNat i), ())
  d : d = []
  f : FsAt h g fs
  id : g.id = P
  o : Count fs0 fs
  inv : Am.Inv fs N (10 + i)
  N : N ≤ 1000 + 40000 * i
  p : Acts h a0 L
theorem tail6b_ok {h : H} {g : FsG} {fs : Fs} {a0 v4 : AV} {n was was0 : Int} {N c : Nat} {K : Bool → H → Prop} (f : FsAt h g fs) (i : Am.Inv fs N c) (hN : N ≤ 5000000) (hc : c ≤ 1000) (hs0 : was0 = was) (hw : 0 ≤ was) (up : was0 ≤ fs.steps) (hK : ∀ h', K true h') : tail6b K (a0, .int .i64 n, .ptr g.id 0, .int .i64 was, v4, ()) (fs.steps - was) [] h := by
  have hm : mostRoom = 140737488355328 := rfl
  have st := i.st
  subst hs0
  obtain ⟨c1, c2, c3, c4, c5, c6⟩ := after6 i (by omega)
  have i1 := i.crash 0 0
  have i2 := i1.syncNames (by omega)
  unfold tail6b
  dsimp only
  refine p17 (kk := 0) (t := 0) f i (by omega) (by omega) fun h1 g1 f1 n1 => ?_
  rw [c1, ← n1.id]
  refine fBE_r zz ?_
  repeat with_reducible first | refine jn_r ?_ | refine brT_r ?_ | refine brF_r ?_ | refine pickT_r ?_ | refine pickF_r ?_ | refine asB_r ?_ | refine asI_r ?_ | refine asBUb_r ?_ | refine asBUs_r ?_ | refine lv_r ?_ | refine jd_r ?_
  refine p18 f1 ?_
  rw [c2, show (!false) = true from rfl]
  repeat with_reducible first | refine jn_r ?_ | refine brT_r ?_ | refine brF_r ?_ | refine pickT_r ?_ | refine pickF_r ?_ | refine asB_r ?_ | refine asI_r ?_ | refine asBUb_r ?_ | refine asBUs_r ?_ | refine lv_r ?_ | refine jd_r ?_
  refine p28 f1 ?_
  rw [c3]
  repeat with_reducible first | refine jn_r ?_ | refine brT_r ?_ | refine brF_r ?_ | refine pickT_r ?_ | refine pickF_r ?_ | refine asB_r ?_ | refine asI_r ?_ | refine asBUb_r ?_ | refine asBUs_r ?_ | refine lv_r ?_ | refine jd_r ?_
  have e1 : wrapF .i64 (Int.sub fs.steps was0) = fs.steps - was0 := wrap_i64_in (by show _ ≤ fs.steps - was0; omega) (by show fs.steps - was0 < _; omega)
  rw [e1]
  refine fI_r ?_
  repeat with_reducible first | refine jn_r ?_ | refine brT_r ?_ | refine brF_r ?_ | refine pickT_r ?_ | refine pickF_r ?_ | refine asB_r ?_ | refine asI_r ?_ | refine asBUb_r ?_ | refine asBUs_r ?_ | refine lv_r ?_ | refine jd_r ?_
  refine fBE_r (eqI_true.2 rfl) ?_
  repeat with_reducible first | refine jn_r ?_ | refine brT_r ?_ | refine brF_r ?_ | refine pickT_r ?_ | refine pickF_r ?_ | refine asB_r ?_ | refine asI_r ?_ | refine asBUb_r ?_ | refine asBUs_r ?_ | refine lv_r ?_ | refine jd_r ?_
  refine p12 f1 (i1.fit.mono (by omega)) fun h2 g2 f2 n2 => ?_
  rw [c4, ← n2.id]
  repeat with_reducible first | refine jn_r ?_ | refine brT_r ?_ | refine brF_r ?_ | refine pickT_r ?_ | refine pickF_r ?_ | refine asB_r ?_ | refine asI_r ?_ | refine asBUb_r ?_ | refine asBUs_r ?_ | refine lv_r ?_ | refine jd_r ?_
  refine fBE_r zz ?_
  repeat with_reducible first | refine jn_r ?_ | refine brT_r ?_ | refine brF_r ?_ | refine pickT_r ?_ | refine pickF_r ?_ | refine asB_r ?_ | refine asI_r ?_ | refine asBUb_r ?_ | refine asBUs_r ?_ | refine lv_r ?_ | refine jd_r ?_
  refine p12 f2 (i2.fit.mono (by omega)) fun h3 g3 f3 n3 => ?_
  rw [c5, ← n3.id]
  repeat with_reducible first | refine jn_r ?_ | refine brT_r ?_ | refine brF_r ?_ | refine pickT_r ?_ | refine pickF_r ?_ | refine asB_r ?_ | refine asI_r ?_ | refine asBUb_r ?_ | refine asBUs_r ?_ | refine lv_r ?_ | refine jd_r ?_
  refine fBE_r zz ?_
  repeat with_reducible first | refine jn_r ?_ | refine brT_r ?_ | refine brF_r ?_ | refine pickT_r ?_ | refine pickF_r ?_ | refine asB_r ?_ | refine asI_r ?_ | refine asBUb_r ?_ | refine asBUs_r ?_ | refine lv_r ?_ | refine jd_r ?_
  refine p28 f3 ?_
  rw [c6]
  repeat with_reducible first | refine jn_r ?_ | refine brT_r ?_ | refine brF_r ?_ | refine pickT_r ?_ | refine pickF_r ?_ | refine asB_r ?_ | refine asI_r ?_ | refine asBUb_r ?_ | refine asBUs_r ?_ | refine lv_r ?_ | refine jd_r ?_
  have e2 : wrapF .i64 (Int.sub (fs.steps + 2) was0) = fs.steps - was0 + 2 := by
    have : Int.sub (fs.steps + 2) was0 = fs.steps - was0 + 2 := by show fs.steps + 2 - was0 = _; omega
    rw [this]; exact wrap_i64_in (by omega) (by omega)
  rw [e2]
  refine fI_r ?_
  repeat with_reducible first | refine jn_r ?_ | refine brT_r ?_ | refine brF_r ?_ | refine pickT_r ?_ | refine pickF_r ?_ | refine asB_r ?_ | refine asI_r ?_ | refine asBUb_r ?_ | refine asBUs_r ?_ | refine lv_r ?_ | refine jd_r ?_
  have e3 : wrapF .i64 (Int.add (fs.steps - was0) (Int.ofNat 2)) = fs.steps - was0 + 2 := wrap_i64_in (by show _ ≤ fs.steps - was0 + 2; omega) (by show fs.steps - was0 + 2 < _; omega)
  rw [e3]
  refine fI_r ?_
  repeat with_reducible first | refine jn_r ?_ | refine brT_r ?_ | refine brF_r ?_ | refine pickT_r ?_ | refine pickF_r ?_ | refine asB_r ?_ | refine asI_r ?_ | refine asBUb_r ?_ | refine asBUs_r ?_ | refine lv_r ?_ | refine jd_r ?_
  refine fBE_r (eqI_true.2 rfl) ?_
  repeat with_reducible first | refine jn_r ?_ | refine brT_r ?_ | refine brF_r ?_ | refine pickT_r ?_ | refine pickF_r ?_ | refine asB_r ?_ | refine asI_r ?_ | refine asBUb_r ?_ | refine asBUs_r ?_ | refine lv_r ?_ | refine jd_r ?_
  exact hK _
theorem tail6_ok {h : H} {g : FsG} {fs fs0 : Fs} {a0 v4 : AV} {n was : Int} {N c : Nat} {K : Bool → H → Prop} (f : FsAt h g fs) (o : Count fs0 fs) (i : Am.Inv fs N c) (hN : N ≤ 5000000) (hc : c ≤ 1000) (hf0 : fs0.fused = true) (ho0 : fs0.off = false) (hl0 : fs0.left = n) (hs0 : fs0.steps = was) (hn : 0 ≤ n) (hw : 0 ≤ was) (hK : ∀ h', K true h') : tail6 K (a0, .int .i64 n, .ptr g.id 0, .int .i64 was, v4, ()) [] h := by
  have hm : mostRoom = 140737488355328 := rfl
  obtain ⟨q1, q2⟩ := o.sum hf0
  have up := o.up
  have st := i.st
  unfold tail6
  dsimp only
  refine p28 f ?_
  repeat with_reducible first | refine jn_r ?_ | refine brT_r ?_ | refine brF_r ?_ | refine pickT_r ?_ | refine pickF_r ?_ | refine asB_r ?_ | refine asI_r ?_ | refine asBUb_r ?_ | refine asBUs_r ?_ | refine lv_r ?_ | refine jd_r ?_
  have e1 : wrapF .i64 (Int.sub fs.steps was) = fs.steps - was := wrap_i64_in (by show _ ≤ fs.steps - was; omega) (by show fs.steps - was < _; omega)
  rw [e1]
  refine fI_r ?_
  repeat with_reducible first | refine jn_r ?_ | refine brT_r ?_ | refine brF_r ?_ | refine pickT_r ?_ | refine pickF_r ?_ | refine asB_r ?_ | refine asI_r ?_ | refine asBUb_r ?_ | refine asBUs_r ?_ | refine lv_r ?_ | refine jd_r ?_
  refine fBE_r (ltI_false.2 (show fs.steps - was ≤ n by omega)) ?_
  repeat with_reducible first | refine jn_r ?_ | refine brT_r ?_ | refine brF_r ?_ | refine pickT_r ?_ | refine pickF_r ?_ | refine asB_r ?_ | refine asI_r ?_ | refine asBUb_r ?_ | refine asBUs_r ?_ | refine lv_r ?_ | refine jd_r ?_
  refine p18 f ?_
  repeat with_reducible first | refine jn_r ?_ | refine brT_r ?_ | refine brF_r ?_ | refine pickT_r ?_ | refine pickF_r ?_ | refine asB_r ?_ | refine asI_r ?_ | refine asBUb_r ?_ | refine asBUs_r ?_ | refine lv_r ?_ | refine jd_r ?_
  refine fB_r ?_
  repeat with_reducible first | refine jn_r ?_ | refine brT_r ?_ | refine brF_r ?_ | refine pickT_r ?_ | refine pickF_r ?_ | refine asB_r ?_ | refine asI_r ?_ | refine asBUb_r ?_ | refine asBUs_r ?_ | refine lv_r ?_ | refine jd_r ?_
  by_cases ho : fs.off = true
  · have hd : fs.steps - was = n := by have := (o.off ho0 ho).2; omega
    rw [ho, show (!(!true)) = true from rfl]
    repeat with_reducible first | refine jn_r ?_ | refine brT_r ?_ | refine brF_r ?_ | refine pickT_r ?_ | refine pickF_r ?_ | refine asB_r ?_ | refine asI_r ?_ | refine asBUb_r ?_ | refine asBUs_r ?_ | refine lv_r ?_ | refine jd_r ?_
    rw [hd]
    refine fBE_r (show Bool.not (eqI n n) = false by rw [show eqI n n = true from eqI_true.2 rfl]; rfl) ?_
    repeat with_reducible first | refine jn_r ?_ | refine brT_r ?_ | refine brF_r ?_ | refine pickT_r ?_ | refine pickF_r ?_ | refine asB_r ?_ | refine asI_r ?_ | refine asBUb_r ?_ | refine asBUs_r ?_ | refine lv_r ?_ | refine jd_r ?_
    rw [← hd]
    exact tail6b_ok f i hN hc hs0 hw up hK
  · have ho := Bool.not_eq_true _ ▸ ho
    rw [ho, show (!(!false)) = false from rfl]
    repeat with_reducible first | refine jn_r ?_ | refine brT_r ?_ | refine brF_r ?_ | refine pickT_r ?_ | refine pickF_r ?_ | refine asB_r ?_ | refine asI_r ?_ | refine asBUb_r ?_ | refine asBUs_r ?_ | refine lv_r ?_ | refine jd_r ?_
    exact tail6b_ok f i hN hc hs0 hw up hK
theorem rest6_ok {h : H} {g : FsG} {fs : Fs} {a0 : AV} {L : List ActE} {n : Int} {N : Nat} {K : Bool → H → Prop} (f : FsAt h g fs) (i : Am.Inv fs N 10) (hN : N ≤ 1000) (hf : fs.fused = true) (ho : fs.off = false) (hl : fs.left = n) (hp : Acts h a0 L) (hs : smallL L = true) (hn : 0 ≤ n) (hK : ∀ h', K true h') : rest6 K a0 n (.ptr g.id 0) fs.steps h := by
  have hm : mostRoom = 140737488355328 := rfl
  unfold smallL at hs
  rw [Bool.and_eq_true, decide_eq_true_iff] at hs
  obtain ⟨hs1, hs2⟩ := hs
  have hs1 := List.all_eq_true.1 hs1
  have st := i.st
  unfold rest6
  refine lp_rule (fun m v d h' => ∃ j g' fs' N, R6 a0 L n fs.steps g.id fs m v d h' j g' fs' N) (fun m self v d hc inv next => ?_) (n := L.length) hp.len ⟨0, g, fs, N, rfl, Nat.zero_le _, rfl, rfl, f, rfl, Count.refl fun h => (i.lf h).1, i, by omega, hp⟩
  obtain ⟨j, g', fs', N', hm', hle, rfl, rfl, f', hid, o', i', hN', hp'⟩ := inv
  dsimp only
  refine (hp'.lenK _).mpr ?_
  rw [← hid]
  repeat with_reducible first | refine jn_r ?_ | refine brT_r ?_ | refine brF_r ?_ | refine pickT_r ?_ | refine pickF_r ?_ | refine asB_r ?_ | refine asI_r ?_ | refine asBUb_r ?_ | refine asBUs_r ?_ | refine lv_r ?_ | refine jd_r ?_
  by_cases hj2 : j < L.length
  rotate_left
  · refine fBE_r (ltI_nat'.2 (Nat.not_lt.1 hj2)) ?_
    repeat with_reducible first | refine jn_r ?_ | refine brT_r ?_ | refine brF_r ?_ | refine pickT_r ?_ | refine pickF_r ?_ | refine asB_r ?_ | refine asI_r ?_ | refine asBUb_r ?_ | refine asBUs_r ?_ | refine lv_r ?_ | refine jd_r ?_
    exact tail6_ok f' o' i' (by omega) (by omega) hf ho hl rfl hn st.1 hK
  refine fBE_r (ltI_nat.2 hj2) ?_
  repeat with_reducible first | refine jn_r ?_ | refine brT_r ?_ | refine brF_r ?_ | refine pickT_r ?_ | refine pickF_r ?_ | refine asB_r ?_ | refine asI_r ?_ | refine asBUb_r ?_ | refine asBUs_r ?_ | refine lv_r ?_ | refine jd_r ?_
  have hsm := hs1 L[j] (List.getElem_mem hj2)
  unfold smallA at hsm
  rw [Bool.and_eq_true, decide_eq_true_iff] at hsm
  have hb4 := hsm.1
  -- what a call leaves
  have nxt : ∀ {h2 : H} {g2 : FsG} {fs2 : Fs} {N2 : Nat}, FsAt h2 g2 fs2 → Nxt hc g' h2 g2 → Op1 fs' fs2 → Am.Inv fs2 N2 (10 + (j + 1)) → N2 ≤ N' + 40000 →
      fI (wrapF .i64 (Int.add (Int.ofNat j) (Int.ofNat 1))) fun x => self (a0, .int .i64 n, .ptr g'.id 0, .int .i64 fs.steps, .int .i64 x, ()) [] h2 := by
    intro h2 g2 fs2 N2 f2 n2 o2 i2 hN2
    rw [inc_nat (by omega)]
    refine fI_r ?_
    refine next (L.length - (j + 1)) _ _ _ (by omega) ⟨j + 1, g2, fs2, N2, rfl, hj2, by rw [hid], rfl, f2, n2.id.trans hid, o'.trans o2.count fun a b => by rw [o2.off a], i2, by omega, hp'.only n2.o (Own.low f')⟩
  have fit' := i'.fit.mono (show N' ≤ mostRoom by omega)
  have hwl := i'.fit.wait
  have rd : ∀ {k : AV → Prop}, (∀ id tt, hc.get id = .cells true tt (L.flatMap ActE.cells) → k (.ptr id (j * 6))) → ixK 6 a0 (.int .i64 (Int.ofNat j)) k := fun q => hp'.read hj2 q
  refine rd fun id tt hg => ?_
  refine faK_n (n := j * 6 + 0) rfl ?_
  refine ldI_r hg hj2 (j := 0) (by omega) rfl rfl ?_
  refine p22 (n := 6) (by decide) fun r => ?_
  refine fB_r ?_
  refine br_intro (fun _ => ?_) fun _ => ?_
  · refine rd fun id tt hg => ?_
    refine faK_n (n := j * 6 + 1) rfl ?_
    refine ldS_r hg hj2 (j := 1) (by omega) rfl rfl ?_
    refine p11 f' fit' (by omega) fun h2 g2 f2 n2 => ?_
    repeat with_reducible first | refine jn_r ?_ | refine brT_r ?_ | refine brF_r ?_ | refine pickT_r ?_ | refine pickF_r ?_ | refine asB_r ?_ | refine asI_r ?_ | refine asBUb_r ?_ | refine asBUs_r ?_ | refine lv_r ?_ | refine jd_r ?_
    exact nxt f2 n2 (.create i' (by omega) _) (i'.create (by omega) (by omega) _) (by omega)
  refine fB_r ?_
  refine br_intro (fun _ => ?_) fun _ => ?_
  · refine rd fun id tt hg => ?_
    refine faK_n (n := j * 6 + 1) rfl ?_
    refine ldS_r hg hj2 (j := 1) (by omega) rfl rfl ?_
    refine rd fun id tt hg => ?_
    refine faK_n (n := j * 6 + 5) rfl ?_
    refine ldV_r hg hj2 (j := 5) (by omega) rfl rfl ?_
    refine p16 f' (hp'.els L[j] (List.getElem_mem hj2)) i'.fit (by omega) (Nat.le_trans i'.held.len (by omega)) fun h2 g2 f2 n2 => ?_
    repeat with_reducible first | refine jn_r ?_ | refine brT_r ?_ | refine brF_r ?_ | refine pickT_r ?_ | refine pickF_r ?_ | refine asB_r ?_ | refine asI_r ?_ | refine asBUb_r ?_ | refine asBUs_r ?_ | refine lv_r ?_ | refine jd_r ?_
    exact nxt f2 n2 (.append i' _ _ (by omega)) ((i'.append _ _ (by omega)).mono (Nat.le_refl _) (by omega)) (by omega)
  refine fB_r ?_
  refine br_intro (fun _ => ?_) fun _ => ?_
  · refine rd fun id tt hg => ?_
    refine faK_n (n := j * 6 + 1) rfl ?_
    refine ldS_r hg hj2 (j := 1) (by omega) rfl rfl ?_
    refine rd fun id tt hg => ?_
    refine faK_n (n := j * 6 + 2) rfl ?_
    refine ldS_r hg hj2 (j := 2) (by omega) rfl rfl ?_
    refine p24 f' fit' (by omega) fun h2 g2 f2 n2 => ?_
    repeat with_reducible first | refine jn_r ?_ | refine brT_r ?_ | refine brF_r ?_ | refine pickT_r ?_ | refine pickF_r ?_ | refine asB_r ?_ | refine asI_r ?_ | refine asBUb_r ?_ | refine asBUs_r ?_ | refine lv_r ?_ | refine jd_r ?_
    exact nxt f2 n2 (.rename i' (by omega) _ _) (i'.rename (by omega) _ _) (by omega)
  refine fB_r ?_
  refine br_intro (fun _ => ?_) fun _ => ?_
  · refine rd fun id tt hg => ?_
    refine faK_n (n := j * 6 + 1) rfl ?_
    refine ldS_r hg hj2 (j := 1) (by omega) rfl rfl ?_
    refine p25 f' fit' (by omega) fun h2 g2 f2 n2 => ?_
    repeat with_reducible first | refine jn_r ?_ | refine brT_r ?_ | refine brF_r ?_ | refine pickT_r ?_ | refine pickF_r ?_ | refine asB_r ?_ | refine asI_r ?_ | refine asBUb_r ?_ | refine asBUs_r ?_ | refine lv_r ?_ | refine jd_r ?_
    exact nxt f2 n2 (.remove i' (by omega) _) ((i'.remove (by omega) _).mono (Nat.le_refl _) (by omega)) (by omega)
  refine fB_r ?_
  refine br_intro (fun _ => ?_) fun _ => ?_
  · refine rd fun id tt hg => ?_
    refine faK_n (n := j * 6 + 1) rfl ?_
    refine ldS_r hg hj2 (j := 1) (by omega) rfl rfl ?_
    refine p14 f' fit' fun h2 g2 f2 n2 => ?_
    repeat with_reducible first | refine jn_r ?_ | refine brT_r ?_ | refine brF_r ?_ | refine pickT_r ?_ | refine pickF_r ?_ | refine asB_r ?_ | refine asI_r ?_ | refine asBUb_r ?_ | refine asBUs_r ?_ | refine lv_r ?_ | refine jd_r ?_
    exact nxt f2 n2 (.sync i' (by omega) _) ((i'.sync (by omega) _).mono (Nat.le_refl _) (by omega)) (by omega)
  · refine p12 f' fit' fun h2 g2 f2 n2 => ?_
    repeat with_reducible first | refine jn_r ?_ | refine brT_r ?_ | refine brF_r ?_ | refine pickT_r ?_ | refine pickF_r ?_ | refine asB_r ?_ | refine asI_r ?_ | refine asBUb_r ?_ | refine asBUs_r ?_ | refine lv_r ?_ | refine jd_r ?_
    exact nxt f2 n2 (.syncNames i' (by omega)) ((i'.syncNames (by omega)).mono (Nat.le_refl _) (by omega)) (by omega)
theorem str_a : (⟨1, 97⟩ : Str) = Str.of [97] := by kernel_rfl
theorem str_b : (⟨1, 98⟩ : Str) = Str.of [98] := by kernel_rfl
theorem t6 {h : H} {a0 : AV} {L : List ActE} {n : Int} {K : Bool → H → Prop} (hb : h.base ≤ h.next) (hp : Acts h a0 L) (hfu : n < 9223372036854775808) (hK : ∀ h', K true h') : s6G J0 pLives s10 s11 s12 s13 s14 s16 s17' s18 s22 s23 s24 s25 s28 a0 n h K := by
  have hm : mostRoom = 140737488355328 := rfl
  unfold s6G
  refine pl_r ?_
  refine fB_r ?_
  refine brF_r ?_
  refine p23 hp ?_
  by_cases c1 : smallL L = true
  rotate_left
  · rw [show smallL L = false by simpa using c1]
    refine fBE_r (show Bool.not false = true from rfl) ?_
    repeat with_reducible first | refine jn_r ?_ | refine brT_r ?_ | refine brF_r ?_ | refine pickT_r ?_ | refine pickF_r ?_ | refine asB_r ?_ | refine asI_r ?_ | refine asBUb_r ?_ | refine asBUs_r ?_ | refine lv_r ?_
    exact hK _
  rw [c1]
  refine fBE_r (show Bool.not true = false from rfl) ?_
  repeat with_reducible first | refine jn_r ?_ | refine brT_r ?_ | refine brF_r ?_ | refine pickT_r ?_ | refine pickF_r ?_ | refine asB_r ?_ | refine asI_r ?_ | refine asBUb_r ?_ | refine asBUs_r ?_ | refine lv_r ?_
  by_cases c2 : 0 ≤ n
  rotate_left
  · refine fBE_r (ltI_true.2 (by simp only [Int.ofNat_eq_natCast]; omega)) ?_
    repeat with_reducible first | refine jn_r ?_ | refine brT_r ?_ | refine brF_r ?_ | refine pickT_r ?_ | refine pickF_r ?_ | refine asB_r ?_ | refine asI_r ?_ | refine asBUb_r ?_ | refine asBUs_r ?_ | refine lv_r ?_
    exact hK _
  refine fBE_r (ltI_false.2 (by simp only [Int.ofNat_eq_natCast]; omega)) ?_
  repeat with_reducible first | refine jn_r ?_ | refine brT_r ?_ | refine brF_r ?_ | refine pickT_r ?_ | refine pickF_r ?_ | refine asB_r ?_ | refine asI_r ?_ | refine asBUb_r ?_ | refine asBUs_r ?_ | refine lv_r ?_
  refine p10 hb (by decide) (by decide) fun h1 f1 o1 => ?_
  obtain ⟨g1, hg1⟩ : ∃ g1 : FsG, g1 = ⟨h.next + 2, h.next, h.next + 1, none⟩ := ⟨_, rfl⟩
  rw [← hg1] at f1
  have f1 : FsAt h1 g1 (Fs.new 1048576) := f1
  rw [show h.next + 2 = g1.id by rw [hg1]]
  have i1 := Fs.new_inv 1048576
  obtain ⟨k1, k2, k3, k4, k5, k6⟩ := setup6 c2
  have i2 := i1.create (by omega) (by omega) [97]
  have i3 := i2.create (by omega) (by omega) [98]
  have i4 := i3.fuse hfu
  have hp1 := hp.only o1 fun _ _ z => z
  refine fBE_r nz0 ?_
  repeat with_reducible first | refine jn_r ?_ | refine brT_r ?_ | refine brF_r ?_ | refine pickT_r ?_ | refine pickF_r ?_ | refine asB_r ?_ | refine asI_r ?_ | refine asBUb_r ?_ | refine asBUs_r ?_ | refine lv_r ?_
  rw [str_a]
  refine p11 f1 (i1.fit.mono (by omega)) (by show (0 + 1) * 72 ≤ _; omega) fun h2 g2 f2 n2 => ?_
  rw [← n2.id, k1]
  have hp2 := hp1.only n2.o (Own.low f1)
  repeat with_reducible first | refine jn_r ?_ | refine brT_r ?_ | refine brF_r ?_ | refine pickT_r ?_ | refine pickF_r ?_ | refine asB_r ?_ | refine asI_r ?_ | refine asBUb_r ?_ | refine asBUs_r ?_ | refine lv_r ?_
  refine fBE_r nz0 ?_
  repeat with_reducible first | refine jn_r ?_ | refine brT_r ?_ | refine brF_r ?_ | refine pickT_r ?_ | refine pickF_r ?_ | refine asB_r ?_ | refine asI_r ?_ | refine asBUb_r ?_ | refine asBUs_r ?_ | refine lv_r ?_
  rw [str_b]
  refine p11 f2 (i2.fit.mono (by omega)) (by have := i2.fit.wait; omega) fun h3 g3 f3 n3 => ?_
  rw [← n3.id, k2]
  have hp3 := hp2.only n3.o (Own.low f2)
  repeat with_reducible first | refine jn_r ?_ | refine brT_r ?_ | refine brF_r ?_ | refine pickT_r ?_ | refine pickF_r ?_ | refine asB_r ?_ | refine asI_r ?_ | refine asBUb_r ?_ | refine asBUs_r ?_ | refine lv_r ?_
  refine fBE_r nz0 ?_
  repeat with_reducible first | refine jn_r ?_ | refine brT_r ?_ | refine brF_r ?_ | refine pickT_r ?_ | refine pickF_r ?_ | refine asB_r ?_ | refine asI_r ?_ | refine asBUb_r ?_ | refine asBUs_r ?_ | refine lv_r ?_
  refine p13 f3 fun h4 g4 f4 n4 => ?_
  rw [← n4.id, k3]
  have hp4 := hp3.only n4.o (Own.low f3)
  repeat with_reducible first | refine jn_r ?_ | refine brT_r ?_ | refine brF_r ?_ | refine pickT_r ?_ | refine pickF_r ?_ | refine asB_r ?_ | refine asI_r ?_ | refine asBUb_r ?_ | refine asBUs_r ?_ | refine lv_r ?_
  refine fBE_r nz0 ?_
  repeat with_reducible first | refine jn_r ?_ | refine brT_r ?_ | refine brF_r ?_ | refine pickT_r ?_ | refine pickF_r ?_ | refine asB_r ?_ | refine asI_r ?_ | refine asBUb_r ?_ | refine asBUs_r ?_ | refine lv_r ?_
  clear f1 f2 f3 k1 k2 k3 i1 i2 i3
  generalize ((((Fs.new 1048576).create [97]).2.create [98]).2.fuse n).2 = fs4 at k4 k5 k6 i4 f4
  refine p28 f4 ?_
  exact rest6_ok f4 (i4.mono (Nat.le_refl _) (by omega)) (by omega) k5 k4 k6 hp4 c1 c2 hK
end Go.Proofs.Ytiejkbmobmgdkaa
