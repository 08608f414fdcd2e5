/- Batches are read, in the document's words. No condition. -/
import Derived.Test.YtcohflkjinpcpaaGreatDoorWaJ
namespace Go.Proofs.YtcohflkjinpcpaaGreatDoor
open Go Go.Am
set_option linter.all false
set_option maxRecDepth 100000
/-- the place of a reader's state in the bytes; below 0: it is bad -/
def PosR (b : List UInt8) (st : St) (x : Int) : Prop := (st.2 = true ∧ x = Int.negSucc 0) ∨ (st.2 = false ∧ ∃ p, p ≤ b.length ∧ st.1 = b.drop p ∧ x = Int.ofNat p)
theorem PosR.len {b : List UInt8} {st : St} {x : Int} (p : PosR b st x) (h : st.2 = false) : st.1.length ≤ b.length := by
  rcases p with ⟨h1, _⟩ | ⟨_, p, _, h2, _⟩
  · rw [h] at h1; cases h1
  · rw [h2, List.length_drop]; omega
theorem text_bad {mo : Nat} {s : St} (h : (smallS mo s).2.2 = true) : textS mo s = ([], ((smallS mo s).2.1, true)) := by unfold textS; rw [if_pos (.inl h)]
theorem small_bad {mo : Nat} {s : St} (h : s.2 = true) : smallS mo s = (0, s) := by unfold smallS; rw [if_pos h]
theorem small_some {mo : Nat} {r : List UInt8} {v : Nat} {t : List UInt8} (h : numO r mo = some (v, t)) : smallS mo (r, false) = (v, (t, false)) := by
  unfold smallS; rw [if_neg (by simp)]; simp only [h]
theorem small_none {mo : Nat} {r : List UInt8} (h : numO r mo = none) : smallS mo (r, false) = (0, (r, true)) := by
  unfold smallS; rw [if_neg (by simp)]; simp only [h]
section
variable {KS : Str → Int → H → Prop}
theorem t35 {b : List UInt8} {a : AV} {h : H} {st : St} {x : Int} {mo : Nat} (sa : SlB h a b) (hb : h.base ≤ h.next) (hl : b.length ≤ 140737488351232) (hmo : mo < 9223372036854775808) (q : PosR b st x)
    (hk : ∀ x' h', PosR b (textS mo st).2 x' → Low h.next h h' → KS (Str.of (textS mo st).1) x' h') : s35G J0 (s34G J0 (s52G J0 s30)) a x (Int.ofNat mo) h KS := by
  unfold s35G
  rw [fB_eq]
  rcases q with ⟨h1, rfl⟩ | ⟨h1, p, hp, h2, rfl⟩
  · rw [show ltI (Int.negSucc 0) (Int.ofNat 0) = true from rfl, br_t]
    have e : textS mo st = ([], (st.1, true)) := by
      have := text_bad (mo := mo) (s := st) (by rw [small_bad h1]; exact h1)
      rw [this, small_bad h1]
    rw [e] at hk
    exact hk _ _ (.inl ⟨rfl, rfl⟩) (Low.refl _ _)
  · obtain ⟨r, bd⟩ := st
    have h1 : bd = false := h1
    have h2 : r = b.drop p := h2
    subst h1 h2
    rw [show ltI (Int.ofNat p) (Int.ofNat 0) = false from ge_ltI (Nat.zero_le _), br_f]
    refine sa.tail hp fun v s2 => ?_
    refine t34 s2 (by rw [List.length_drop]; omega) hmo hb fun x4 x5 x6 h' hS lo => ?_
    have sa' := sa.low lo (Nat.le_refl _)
    rcases smq_num hS with ⟨n, k, k1, k2, k3, rfl, rfl, rfl⟩ | ⟨k2, rfl, rfl, rfl⟩
    · rw [List.length_drop] at k1
      have e0 := small_some k2
      have e1 : Int.sub (Int.ofNat b.length) (Int.ofNat p) = Int.ofNat (b.length - p) := sub_nat hp
      have e2 : Int.sub (Int.ofNat (b.length - p)) (Int.ofNat k) = Int.ofNat (b.length - p - k) := sub_nat k1
      have w1 : wrapF .i64 (Int.ofNat (b.length - p)) = Int.ofNat (b.length - p) := wrapF_nat (kk := .i64) (by show b.length - p < 9223372036854775808; omega)
      have w2 : wrapF .i64 (Int.ofNat (b.length - p - k)) = Int.ofNat (b.length - p - k) := wrapF_nat (kk := .i64) (by show b.length - p - k < 9223372036854775808; omega)
      have w3 : wrapF .i64 (Int.add (Int.ofNat p) (Int.ofNat k)) = Int.ofNat (p + k) := wrapF_nat (kk := .i64) (m := p + k) (by show p + k < 9223372036854775808; omega)
      have SL := sa'.len
      simp only [↓jn_is, ↓br_t, ↓br_f, ↓pickB_t, ↓pickB_f, ↓asB_bool, ↓asI_int, ↓fB_eq, ↓fI_eq, ↓Bool.not_true, eqI_nat, decide_true, ↓SL, e1, e2, w1, w2, w3, ltI_nat]
      have ed : (b.drop p).drop k = b.drop (p + k) := List.drop_drop
      have el : ((b.drop p).drop k).length = b.length - p - k := by rw [List.length_drop, List.length_drop]
      unfold textS at hk
      rw [e0] at hk
      by_cases hc : b.length - p - k < n
      · rw [decide_eq_true hc, br_t]
        have hk := hk (Int.negSucc 0) h'
        rw [if_pos (.inr (by show ((b.drop p).drop k).length < n; omega))] at hk
        exact hk (.inl ⟨rfl, rfl⟩) lo
      · rw [decide_eq_false hc, br_f]
        have w4 : wrapF .i64 (Int.add (Int.ofNat (p + k)) (Int.ofNat n)) = Int.ofNat (p + k + n) := wrapF_nat (kk := .i64) (m := p + k + n) (by show p + k + n < 9223372036854775808; omega)
        rw [w4]
        refine sa'.cut (bnd_some 0 (p + k) .i64) (bnd_some _ (p + k + n) .i64) (by omega) (by omega) fun v4 s4 => ?_
        rw [s4.str]
        have hk := hk (Int.ofNat (p + k + n)) h'
        rw [if_neg (by rintro (h | h); cases h; exact hc (by have h : ((b.drop p).drop k).length < n := h; omega))] at hk
        have e5 : (b.take (p + k + n)).drop (p + k) = ((b.drop p).drop k).take n := by
          rw [ed, List.drop_take]; congr 1; omega
        rw [e5]
        exact hk (.inr ⟨rfl, p + k + n, by omega, by show ((b.drop p).drop k).drop n = _; rw [ed, List.drop_drop], rfl⟩) lo
    · simp only [↓jn_is, ↓br_t, ↓br_f, ↓pickB_t, ↓pickB_f, ↓asB_bool, ↓asI_int, ↓fB_eq, ↓fI_eq, ↓Bool.not_false, show eqI (Int.ofNat 5) (Int.ofNat 0) = false from rfl]
      have e0 := small_none k2
      have := text_bad (mo := mo) (s := (b.drop p, false)) (by rw [e0])
      rw [this] at hk
      exact hk _ _ (.inl ⟨rfl, rfl⟩) lo
end
/-- the state of the document's reader of batches -/
structure RSt (h h' : H) (M N sq : Nat) (acc : List Wt) (wv : AV) : Prop where
  low : Low h.next h h'
  nx : N ≤ h'.next
  g1 : h'.get h.next = .cells false 24 [.int .i64 (Int.ofNat 0), .nils]
  g7 : h'.get M = .cells false 24 [.int .i64 (Int.ofNat sq), wv]
  gr : Grow wrc 53 3 N h' wv acc
theorem RSt.look {h h1 h' : H} {M N sq : Nat} {acc : List Wt} {wv : AV} (d : RSt h h1 M N sq acc wv) (lo : Low h1.next h1 h') : RSt h h' M N sq acc wv := by
  have l := H.lt_of_live (h := h1) (id := h.next) (by rw [d.g1]; rfl)
  have l7 := H.lt_of_live (h := h1) (id := M) (by rw [d.g7]; rfl)
  exact ⟨d.low.trans (lo.down (by omega)), Nat.le_trans d.nx lo.next, (lo.get _ l).trans d.g1, (lo.get _ l7).trans d.g7, d.gr.keep lo (Nat.le_refl _)⟩
theorem loop_end {n sq : Nat} {st : St} {acc : List Wt} (h : st.2 = true) : endS sq (loopS n st acc) = none := by
  rw [loopS_bad n h]
  exact if_pos (.inl h)
theorem loop_flag {n sq : Nat} {st : St} {acc : List Wt} (h : (smallS 1 st).2.2 = true) : endS sq (loopS (n + 1) st acc) = none := by
  by_cases hb : st.2 = true
  · exact loop_end hb
  have hz : (textS 512 (smallS 1 st).2).2.2 = true := by
    rw [text_bad]
    rw [small_bad h]; exact h
  have hz2 : (textS 4096 (textS 512 (smallS 1 st).2).2).2.2 = true := by
    rw [text_bad]
    rw [small_bad hz]; exact hz
  show endS sq (if st.2 = true then _ else _) = none
  rw [if_neg hb]
  split
  · exact loop_end hz
  · exact loop_end hz2
theorem uv_byte {c : UInt8} (h : c.toNat < 128) : uv c.toNat = [c] := by
  rw [uv_small h]
  congr 1
  exact UInt8.toNat_inj.1 (by rw [toNat_ofNat (by omega)])
theorem flag_ok {c : UInt8} {t : List UInt8} (h : c.toNat ≤ 1) : smallS 1 (c :: t, false) = (c.toNat, (t, false)) :=
  small_some (by have := numO_some (v := c.toNat) (mo := 1) (tail := t) h; rw [uv_byte (by omega)] at this; exact this)
theorem flag_no {r : List UInt8} (h : ∀ c t, r = c :: t → 1 < c.toNat) : (smallS 1 (r, false)).2.2 = true := by
  have : numO r 1 = none := numO_none fun v tail hv hr => by
    rw [uv_small (by omega)] at hr
    have := h _ _ hr
    rw [toNat_ofNat (by omega)] at this
    omega
  rw [small_none this]
theorem loopS_go {n f : Nat} {r r' : List UInt8} {acc : List Wt} (h : smallS 1 (r, false) = (f, (r', false))) : loopS (n + 1) (r, false) acc = if f = 1 then loopS n (textS 512 (r', false)).2 (acc ++ [((textS 512 (r', false)).1, [], true)])
    else loopS n (textS 4096 (textS 512 (r', false)).2).2 (acc ++ [((textS 512 (r', false)).1, (textS 4096 (textS 512 (r', false)).2).1, false)]) := by
  have e : loopS (n + 1) (r, false) acc = if (false : Bool) = true then ((r, false), acc) else
      if (smallS 1 (r, false)).1 = 1 then loopS n (textS 512 (smallS 1 (r, false)).2).2 (acc ++ [((textS 512 (smallS 1 (r, false)).2).1, [], true)])
      else loopS n (textS 4096 (textS 512 (smallS 1 (r, false)).2).2).2 (acc ++ [((textS 512 (smallS 1 (r, false)).2).1, (textS 4096 (textS 512 (smallS 1 (r, false)).2).2).1, false)]) := rfl
  rw [e, if_neg (by decide), h]
section
variable {KD : AV → Int → H → Prop}
theorem t11 {b : List UInt8} {a : AV} {h : H} (sa : SlB h a b) (hb : h.base ≤ h.next) (hl : b.length ≤ 140737488351232) (hk : ∀ v e h', Low h.next h h' → DecP h' (decS b) v e → KD v e h') :
    s11G J0 (s9G J0 (s15G J0 (s40G J0)) (s29G J0 s30) s30 (s31G J0 (s29G J0 s30))) (s34G J0 (s52G J0 s30)) (s35G J0 (s34G J0 (s52G J0 s30))) a h KD := by
  unfold s11G
  rw [pushK_is]
  have l2 := Low.push h.next h (.cells false 24 [.int .i64 (Int.ofNat 0), .nils]) (Nat.le_refl _)
  have g2 := new_at h (.cells false 24 [.int .i64 (Int.ofNat 0), .nils])
  have n2 : (pushed h (.cells false 24 [.int .i64 (Int.ofNat 0), .nils])).next = h.next + 1 := rfl
  show s34G J0 (s52G J0 s30) a _ (pushed h (.cells false 24 [.int .i64 (Int.ofNat 0), .nils])) _
  generalize pushed h (.cells false 24 [.int .i64 (Int.ofNat 0), .nils]) = h2 at l2 g2 n2 ⊢
  have b2 := l2.base
  have badE : decS b = none → ∀ (h1 : H), Low h.next h h1 → h1.get h.next = .cells false 24 [.int .i64 (Int.ofNat 0), .nils] → stN 2 (.ptr h.next 0) [.int .i64 (Int.ofNat 0), .nils] h1 (fun h127 => ldN 2 (.ptr h.next 0) h127 fun l129 => KD (.agg l129) (Int.ofNat 5) h127) := fun he h1 L1 D1 => by
    have H2 : h.next < h1.next := H.lt_of_live (by rw [D1]; rfl)
    rw [stN_at (n := 2) (xs := [.int .i64 (Int.ofNat 0), .nils]) D1 (o := 0) rfl rfl rfl H2 (by rw [L1.base]; exact hb)]
    show ldN 2 (.ptr h.next 0) (putted h1 h.next (.cells false 24 [.int .i64 (Int.ofNat 0), .nils])) _
    rw [ldN_at (l := [.int .i64 (Int.ofNat 0), .nils]) (by rw [putted_get _ _ _ H2, if_pos rfl]) rfl]
    refine hk _ _ _ (L1.trans (.put _ H2 (Nat.le_refl _))) ?_
    rw [he]
    exact ⟨rfl, rfl⟩
  refine t34 (mo := 1073741824) (sa.low l2 (Nat.le_refl _)) hl (by decide) (by omega) fun x4 x5 x6 h3 hS l3 => ?_
  have L3 := l2.trans (l3.down (by omega))
  have g3 := (l3.get _ (by omega)).trans g2
  have n3 := l3.next
  have b3 := l3.base
  rcases smq_num hS with ⟨sq, k, k1, k2, k3, rfl, rfl, rfl⟩ | ⟨k2, rfl, rfl, rfl⟩
  rotate_left
  · rw [fB_eq, show Bool.not (eqI (Int.ofNat 5) (Int.ofNat 0)) = true from rfl, br_t]
    refine badE ?_ h3 L3 g3
    unfold decS
    rw [small_none k2]
    exact loop_end (by rw [small_bad rfl])
  have e1 := small_some k2
  rw [fB_eq, show Bool.not (eqI (Int.ofNat 0) (Int.ofNat 0)) = false from rfl, br_f]
  refine (sa.low L3 (Nat.le_refl _)).tail k1 fun v10 s10 => ?_
  refine t34 (mo := 64) s10 (by rw [List.length_drop]; omega) (by decide) (by omega) fun x12 x13 x14 h11 hS2 l11 => ?_
  have L11 := L3.trans (l11.down (by omega))
  have g11 := (l11.get _ (by omega)).trans g3
  have n11 := l11.next
  have b11 := l11.base
  rcases smq_num hS2 with ⟨n0, k', j1, j2, j3, rfl, rfl, rfl⟩ | ⟨j2, rfl, rfl, rfl⟩
  rotate_left
  · rw [fB_eq, show Bool.not (eqI (Int.ofNat 5) (Int.ofNat 0)) = true from rfl, br_t]
    refine badE ?_ h11 L11 g11
    unfold decS
    rw [e1]
    show endS sq (loopS (smallS 64 (b.drop k, false)).1 (smallS 64 (b.drop k, false)).2 []) = none
    rw [small_none j2]
    exact loop_end rfl
  have e2 := small_some j2
  rw [List.length_drop] at j1
  rw [fB_eq, show Bool.not (eqI (Int.ofNat 0) (Int.ofNat 0)) = false from rfl, br_f, pushK_is]
  have hdec : decS b = endS sq (loopS n0 (b.drop (k + k'), false) []) := by
    unfold decS
    rw [e1]
    show endS sq (loopS (smallS 64 (b.drop k, false)).1 (smallS 64 (b.drop k, false)).2 []) = _
    rw [e2, List.drop_drop]
  show stN 2 _ [.int .i64 (Int.ofNat sq), .nils] _ _
  rw [st2_new rfl (by omega)]
  have l9 := Low.push h11.next h11 (.cells false 24 [.int .i64 (Int.ofNat sq), .nils]) (Nat.le_refl _)
  have g9 := new_at h11 (.cells false 24 [.int .i64 (Int.ofNat sq), .nils])
  have n9 : (pushed h11 (.cells false 24 [.int .i64 (Int.ofNat sq), .nils])).next = h11.next + 1 := rfl
  generalize pushed h11 (.cells false 24 [.int .i64 (Int.ofNat sq), .nils]) = h9 at l9 g9 n9 ⊢
  have hMn : h.next < h11.next := by omega
  have hMb : h.base ≤ h11.next := by omega
  generalize h11.next = M at g9 n9 l9 hMn hMb ⊢
  have d9 : RSt h h9 M (M + 1) sq [] .nils := ⟨L11.trans (l9.down (by omega)), by omega, (l9.get _ (by omega)).trans g11, g9, .nil _ _ _ _ _⟩
  rw [fI_eq, show wrapF .i64 (Int.add (Int.ofNat k) (Int.ofNat k')) = Int.ofNat (k + k') from wrapF_nat (kk := .i64) (m := k + k') (by show k + k' < 9223372036854775808; omega)]
  refine lp_for n0 (fun i w h' => ∃ st acc wv pos, w = (a, .ptr h.next 0, .int .i64 (Int.ofNat n0), .ptr M 0, .int .i64 pos, .int .i64 (Int.ofNat i), ()) ∧ RSt h h' M (M + 1) sq acc wv ∧ PosR b st pos ∧ endS sq (loopS (n0 - i) st acc) = decS b ∧ acc.length = i) (by omega) ?_ ?_
    ⟨(b.drop (k + k'), false), [], .nils, _, rfl, d9, .inr ⟨rfl, k + k', by omega, rfl, rfl⟩, hdec.symm, rfl⟩
  · rintro i w h' self hi ⟨st, acc, wv, pos, rfl, D, hP, hL, hacc⟩ hs
    have hbase := D.low.base
    have hnext := D.nx
    obtain ⟨c', hc'⟩ : ∃ c', n0 - i = c' + 1 := ⟨n0 - i - 1, by omega⟩
    have hc2 : n0 - (i + 1) = c' := by omega
    rw [hc'] at hL
    dsimp only
    rw [asI_int, asI_int, fB_eq, lt_ltI hi, br_t, asI_int, fB_eq]
    have sa' := sa.low D.low (Nat.le_refl _)
    rcases hP with ⟨h1, rfl⟩ | ⟨h1, p, hp, h2, rfl⟩
    · rw [show ltI (Int.negSucc 0) (Int.ofNat 0) = true from rfl]
      simp only [↓jn_is, ↓br_t, ↓br_f, ↓pickB_t, ↓pickB_f, ↓asB_bool, ↓asI_int]
      exact badE (hL.symm.trans (loop_end h1)) h' D.low D.g1
    obtain ⟨r, bd⟩ := st
    have h1 : bd = false := h1
    have h2 : r = b.drop p := h2
    subst h1 h2
    rw [show ltI (Int.ofNat p) (Int.ofNat 0) = false from ge_ltI (Nat.zero_le _)]
    have SL := sa'.len
    by_cases hpl : p < b.length
    rotate_left
    · simp only [↓jn_is, ↓br_t, ↓br_f, ↓pickB_t, ↓pickB_f, ↓asB_bool, ↓asI_int, ↓SL, ↓fB_eq, ge_ltI (show b.length ≤ p by omega), ↓Bool.not_false]
      exact badE (hL.symm.trans (loop_flag (flag_no fun c t e => by rw [List.drop_of_length_le (by omega)] at e; cases e))) h' D.low D.g1
    obtain ⟨pp, p1, p2⟩ := sa'.at hpl
    have hd := drop_cons hpl
    simp only [↓jn_is, ↓br_t, ↓br_f, ↓pickB_t, ↓pickB_f, ↓asB_bool, ↓asI_int, ↓SL, ↓fB_eq, lt_ltI hpl, ↓Bool.not_true, ↓p1, ↓p2 h' _ (fun _ _ => rfl)]
    rw [show ltI (Int.ofNat 1) (bI b[p]) = decide (1 < (b[p]).toNat) from ltI_nat 1 (b[p]).toNat]
    by_cases hfl : 1 < (b[p]).toNat
    · rw [decide_eq_true hfl, br_t]
      exact badE (hL.symm.trans (loop_flag (flag_no fun c t e => by rw [hd] at e; injection e with e _; rw [← e]; exact hfl))) h' D.low D.g1
    rw [decide_eq_false hfl, br_f, pushK_is]
    have hfs : smallS 1 (b.drop p, false) = ((b[p]).toNat, (b.drop (p + 1), false)) := by rw [hd]; exact flag_ok (by omega)
    have hL2 : endS sq (if (b[p]).toNat = 1 then loopS c' (textS 512 (b.drop (p + 1), false)).2 (acc ++ [((textS 512 (b.drop (p + 1), false)).1, [], true)])
        else loopS c' (textS 4096 (textS 512 (b.drop (p + 1), false)).2).2 (acc ++ [((textS 512 (b.drop (p + 1), false)).1, (textS 4096 (textS 512 (b.drop (p + 1), false)).2).1, false)])) = decS b := by
      rw [← hL]
      exact congrArg (endS sq) (loopS_go hfs).symm
    rw [show eqI (bI b[p]) (Int.ofNat 1) = decide ((b[p]).toNat = 1) from eqI_nat (b[p]).toNat 1]
    generalize (b[p]).toNat = fl at hL2 ⊢
    show stN 3 (.ptr h'.next 0) (wrc ([], [], decide (fl = 1))) (pushed h' (.cells false 53 [.str ⟨0, 0⟩, .str ⟨0, 0⟩, .bool false])) _
    rw [st_wr (by omega)]
    have g3 := new_at h' (.cells false 53 (wrc ([], [], decide (fl = 1))))
    have l3' := Low.push h'.next h' (.cells false 53 (wrc ([], [], decide (fl = 1)))) (Nat.le_refl _)
    have n3' : (pushed h' (.cells false 53 (wrc ([], [], decide (fl = 1))))).next = h'.next + 1 := rfl
    generalize pushed h' (.cells false 53 (wrc ([], [], decide (fl = 1)))) = h3' at g3 l3' n3' ⊢
    have D3 := D.look l3'
    have hW : M + 1 ≤ h'.next := hnext
    have hWb : h.base ≤ h'.next := by omega
    have hne : ∀ (id o c d e : Nat) (x : Bool), wv = .slice id o c d e x → id ≠ h'.next := fun id o l c e x e1 => by
      rcases D.gr with ⟨h0, _⟩ | ⟨id', m, h0, _, h1, _⟩
      · rw [e1] at h0; cases h0
      · rw [e1] at h0; injection h0 with h0; omega
    generalize h'.next = W at g3 n3' hW hWb hne ⊢
    have b3' := D3.low.base
    rw [fI_eq, inc_i p (by omega)]
    refine t35 (mo := 512) (st := (b.drop (p + 1), false)) (sa.low D3.low (Nat.le_refl _)) (by omega) hl (by decide) (.inr ⟨rfl, p + 1, by omega, rfl, rfl⟩) fun x81 h4 P4 l4 => ?_
    have D4 := D3.look l4
    have g4 := (l4.get _ (by omega)).trans g3
    generalize textS 512 (b.drop (p + 1), false) = tx at hL2 P4 ⊢
    obtain ⟨key, st2⟩ := tx
    have P4 : PosR b st2 x81 := P4
    have hW4 : W < h4.next := by have := l4.next; omega
    rw [stV_at g4 (o := 0) (x := .str (Str.of key)) (cs' := wrc (key, [], decide (fl = 1))) rfl rfl hW4 (by rw [D4.low.base]; exact hWb)]
    have u5 := Upd.put (h := h4) (.cells false 53 (wrc (key, [], decide (fl = 1)))) hW4
    have g5 : (putted h4 W (.cells false 53 (wrc (key, [], decide (fl = 1))))).get W = .cells false 53 (wrc (key, [], decide (fl = 1))) := by rw [putted_get _ _ _ hW4, if_pos rfl]
    have putD : ∀ {h4 : H} {c : Blk} {acc : List Wt} {wv : AV}, W < h4.next → RSt h h4 M (M + 1) sq acc wv → (∀ (id o c d e : Nat) (x : Bool), wv = .slice id o c d e x → id ≠ W) → RSt h (putted h4 W c) M (M + 1) sq acc wv := fun hw d hne =>
      ⟨d.low.trans (.put _ hw (by omega)), d.nx, by rw [putted_get _ _ _ hw, if_neg (by omega)]; exact d.g1, by rw [putted_get _ _ _ hw, if_neg (by omega)]; exact d.g7, grow_put d.gr hw hne⟩
    have D5 := putD (c := .cells false 53 (wrc (key, [], decide (fl = 1)))) hW4 D4 hne
    have hW5 : W < (putted h4 W (.cells false 53 (wrc (key, [], decide (fl = 1))))).next := hW4
    show J0.jd _ _
    generalize putted h4 W (.cells false 53 (wrc (key, [], decide (fl = 1)))) = h5 at g5 D5 hW5 ⊢
    refine jd_intro (fun v' d' h'' => ∃ st' t pos', v' = (a, .ptr h.next 0, .int .i64 (Int.ofNat n0), .ptr M 0, .int .i64 pos', .int .i64 (Int.ofNat i), .ptr W 0, ()) ∧ d' = [] ∧ RSt h h'' M (M + 1) sq acc wv ∧ h''.get W = .cells false 53 (wrc t) ∧ PosR b st' pos' ∧ endS sq (loopS c' st' (acc ++ [t])) = decS b) (fun j hj => ?_) ?_
    · rw [ldB_at g5 (o := 2) (x := decide (fl = 1)) rfl]
      by_cases hf : fl = 1
      · rw [decide_eq_true hf] at g5 ⊢
        rw [if_pos hf] at hL2
        rw [Bool.not_true, br_f]
        exact hj _ _ _ ⟨st2, (key, [], true), x81, rfl, rfl, D5, g5, P4, hL2⟩
      · rw [decide_eq_false hf] at g5 ⊢
        rw [if_neg hf] at hL2
        rw [Bool.not_false, br_t]
        have b5 := D5.low.base
        refine t35 (mo := 4096) (sa.low D5.low (Nat.le_refl _)) (by omega) hl (by decide) P4 fun x103 h6 P6 l6 => ?_
        have D6 := D5.look l6
        have g6 := (l6.get _ (by omega)).trans g5
        have hW6 : W < h6.next := by have := l6.next; omega
        rw [stV_at g6 (o := 1) (x := .str (Str.of (textS 4096 st2).1)) (cs' := wrc (key, (textS 4096 st2).1, false)) rfl rfl hW6 (by rw [D6.low.base]; exact hWb)]
        exact hj _ _ _ ⟨(textS 4096 st2).2, (key, (textS 4096 st2).1, false), x103, rfl, rfl, putD hW6 D6 hne, by rw [putted_get _ _ _ hW6, if_pos rfl], P6, hL2⟩
    · rintro _ _ h6 ⟨st', t, pos', rfl, rfl, D6, gW, P6, hL6⟩
      dsimp only
      rw [faK_ptr, ldV_at D6.g7 (o := Nat.add 0 1) (v := wv) rfl, ldN_at gW (n := 3) (o := 0) (l := wrc t) rfl]
      refine ck_intro rfl ?_
      show op' (some (wrc t)) _
      rw [op'_some, pushK_is]
      have l7 := Low.push h6.next h6 (.cells false 53 (wrc t)) (Nat.le_refl _)
      have g7 := new_at h6 (.cells false 53 (wrc t))
      have n7 : (pushed h6 (.cells false 53 (wrc t))).next = h6.next + 1 := rfl
      generalize pushed h6 (.cells false 53 (wrc t)) = h7 at l7 g7 n7 ⊢
      have D7 := D6.look l7
      have b7 := D7.low.base
      have x7 := D7.nx
      refine ap_grow D7.gr wrc_len wrc_ones g7 (by omega) (by omega) (by unfold mostRoom; omega) fun v8 h8 gr8 l8 => ?_
      have g8 : h8.get M = .cells false 24 [.int .i64 (Int.ofNat sq), wv] := (l8.get _ (by omega)).trans D7.g7
      have b8 := l8.base
      have x8 := l8.next
      have hn8 : M < h8.next := by omega
      rw [faK_ptr, stV_at g8 (o := Nat.add 0 1) (x := v8) (grow_one gr8) rfl hn8 (by omega), asI_int, fI_eq, inc_i i (by omega)]
      have u9 := Upd.put (h := h8) (.cells false 24 [.int .i64 (Int.ofNat sq), v8]) hn8
      refine hs _ _ ⟨st', acc ++ [t], v8, pos', rfl, ⟨(D7.low.trans (l8.down (by omega))).trans (u9.low (by omega)), by rw [u9.next]; omega, (u9.get _ (by omega)).trans ((l8.get _ (by omega)).trans D7.g1), by rw [putted_get _ _ _ hn8, if_pos rfl], grow_upd gr8 u9 (by omega)⟩, P6, by rw [hc2]; exact hL6, by rw [List.length_append, hacc]; rfl⟩
  · rintro w h' self ⟨st, acc, wv, pos, rfl, D, hP, hL, hacc⟩
    have hbase := D.low.base
    have hnext := D.nx
    have sa' := sa.low D.low (Nat.le_refl _)
    have SL := sa'.len
    rw [Nat.sub_self, loopS_0] at hL
    dsimp only
    rw [asI_int, asI_int, fB_eq, ge_ltI (Nat.le_refl _), br_f, SL, asI_int, fB_eq]
    have e1 : endS sq (st, acc) = if st.2 = true ∨ st.1 ≠ [] ∨ sq < 1 ∨ chkW acc ≠ Int.ofNat 0 then none else some (sq, acc) := rfl
    rcases hP with ⟨h1, rfl⟩ | ⟨h1, p, hp, h2, rfl⟩
    · rw [show eqI (Int.negSucc 0) (Int.ofNat b.length) = false from rfl, Bool.not_false, br_t]
      exact badE (hL.symm.trans (by rw [e1]; exact if_pos (.inl h1))) h' D.low D.g1
    rw [eqI_nat]
    by_cases hpl : p = b.length
    rotate_left
    · rw [decide_eq_false hpl, Bool.not_false, br_t]
      exact badE (hL.symm.trans (by rw [e1]; exact if_pos (.inr (.inl (by rw [h2]; intro h; have := congrArg List.length h; rw [List.length_drop] at this; simp at this; omega)))) ) h' D.low D.g1
    rw [decide_eq_true hpl, Bool.not_true, br_f, ldN_at D.g7 (l := [.int .i64 (Int.ofNat sq), wv]) rfl]
    refine t9 (.of D.gr.row) (by omega) fun v2 h4 _ l4 => ?_
    have D4 := D.look l4
    have hnil : st.1 = [] := by rw [h2, hpl, List.drop_length]
    rw [fB_eq]
    have H2 : h.next < h4.next := H.lt_of_live (by rw [D4.g1]; rfl)
    by_cases hs0 : sq < 1
    · have : encE (Int.ofNat sq) acc = Int.ofNat 2 := if_pos (.inl (by show (sq : Int) < 1; omega))
      rw [this, show Bool.not (eqI (Int.ofNat 2) (Int.ofNat 0)) = true from rfl, br_t]
      exact badE (hL.symm.trans (by rw [e1]; exact if_pos (.inr (.inr (.inl hs0))))) h4 D4.low D4.g1
    have ee : encE (Int.ofNat sq) acc = chkW acc := if_neg fun hh => hh.elim (fun h => by have h : (sq : Int) < 1 := h; omega) (fun h => by have h : (1073741824 : Int) < (sq : Int) := h; omega)
    rw [ee]
    rcases chk_cases acc with h0 | h0
    · rw [h0, show Bool.not (eqI (Int.ofNat 0) (Int.ofNat 0)) = false from rfl, br_f, ldN_at D4.g7 (l := [.int .i64 (Int.ofNat sq), wv]) rfl]
      have W1 := grow_one D4.gr
      have W2 : allOnes [.int .i64 (Int.ofNat sq), wv] = true := by
        show (Bool.rec (motive := fun _ => Bool) false (Bool.rec (motive := fun _ => Bool) false true (isOne wv)) true : Bool) = true
        rw [W1]
      rw [stN_at (n := 2) D4.g1 (o := 0) rfl W2 rfl H2 (by rw [D4.low.base]; exact hb)]
      show ldN 2 (.ptr h.next 0) (putted h4 h.next (.cells false 24 [.int .i64 (Int.ofNat sq), wv])) _
      rw [ldN_at (l := [.int .i64 (Int.ofNat sq), wv]) (by rw [putted_get _ _ _ H2, if_pos rfl]) rfl]
      refine hk _ _ _ (D4.low.trans (.put _ H2 (Nat.le_refl _))) ?_
      rw [← hL, show endS sq (st, acc) = some (sq, acc) from by rw [e1]; exact if_neg (by rintro (h | h | h | h); rw [h1] at h; cases h; exact h hnil; exact hs0 h; exact h h0)]
      exact ⟨wv, rfl, rfl, .of (grow_upd D4.gr (.put _ H2) (by omega)).row⟩
    · rw [h0, Bool.not_false, br_t]
      exact badE (hL.symm.trans (by rw [e1]; exact if_pos (.inr (.inr (.inr (fun e => by rw [e] at h0; cases h0)))))) h4 D4.low D4.g1
end
end Go.Proofs.YtcohflkjinpcpaaGreatDoor
