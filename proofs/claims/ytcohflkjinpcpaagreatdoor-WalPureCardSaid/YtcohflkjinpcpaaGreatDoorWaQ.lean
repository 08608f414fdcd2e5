/- The law over what its callees answer. No condition. -/
import Derived.Test.YtcohflkjinpcpaaGreatDoorWaS3
namespace Go.Proofs.YtcohflkjinpcpaaGreatDoor
open Go Go.Am
set_option linter.all false
set_option maxRecDepth 100000
def decN (o : Option (Nat × List Wt)) : Nat := match o with
  | some p => p.1
  | none => 0
def decL (o : Option (Nat × List Wt)) : List Wt := match o with
  | some p => p.2
  | none => []
def decR (o : Option (Nat × List Wt)) : Int := match o with
  | some _ => Int.ofNat 0
  | none => Int.ofNat 5
theorem DecP.is {h : H} {o : Option (Nat × List Wt)} {v : AV} {e : Int} (d : DecP h o v e) : ∃ w, v = .agg [.int .i64 (Int.ofNat (decN o)), w] ∧ e = decR o ∧ RowP wrc 3 h w (decL o) := by
  cases o with
  | none => exact ⟨.nils, d.1, d.2, .inl ⟨rfl, rfl⟩⟩
  | some p => obtain ⟨w, d1, d2, d3⟩ := d; exact ⟨w, d1, d2, d3⟩
theorem dec_len (b : List UInt8) : (decL (decS b)).length ≤ 64 := by
  unfold decS
  generalize loopS _ _ _ = r
  generalize (smallS 1073741824 (b, false)).1 = sq
  unfold endS
  split
  · exact Nat.zero_le _
  · rename_i h
    have h0 : chkW r.2 = Int.ofNat 0 := Classical.byContradiction fun hc => h (.inr (.inr (.inr hc)))
    exact (chk_is h0).2.1
theorem GrowX.head {α : Type} {f : α → List AV} {e es n : Nat} {h : H} {v : AV} {l m : List α} {kk : IntKind} {k : AV → Prop} (g : GrowX f e es n h v (l ++ m)) (hm : m ≠ []) (hk : ∀ v', RowP f es h v' l → isOne v' = true → k v') :
    slK es v none (some (.int kk (Int.ofNat l.length))) k := by
  rcases g with ⟨rfl, h0⟩ | ⟨id, mv, ex, rfl, g2, g3, g4⟩
  · exact absurd (List.append_eq_nil_iff.1 h0).2 hm
  · have hl : (l ++ m).length = l.length + m.length := List.length_append
    have hm0 : 0 < m.length := List.length_pos_iff.2 hm
    have c0 : Nat.beq (l ++ m).length 0 = false := by
      cases hb : Nat.beq (l ++ m).length 0 with
      | false => rfl
      | true => rw [Nat.beq_eq] at hb; omega
    unfold slK
    rw [asSl_slice]
    show ck (Nat.ble l.length (l ++ m).length) (ck (Nat.ble 0 l.length) (ck (Nat.beq es es) (br (Nat.beq (l ++ m).length 0) _ (fN (Nat.add 0 (Nat.mul 0 es)) fun o => fN (Nat.sub l.length 0) fun n => fN (Nat.sub (l ++ m).length 0) fun c => k (.slice id o n c es ex)))))
    rw [(ble_iff _ _).2 (by omega), (ble_iff _ _).2 (Nat.zero_le _), show Nat.beq es es = true from by rw [Nat.beq_eq], ck_t, ck_t, ck_t, c0, br_f, fN_eq, fN_eq, fN_eq]
    have e0 : Nat.add 0 (Nat.mul 0 es) = 0 := by show 0 + 0 * es = 0; omega
    rw [e0]
    refine hk _ (.inr ⟨id, _, ex, mv, e, m.flatMap f, rfl, by rw [g4]; simp, g3⟩) rfl
noncomputable def pLiv (Q : H → Prop) : Fun := fun xs h k => xs = [] ∧ Q h ∧ k (.bool true) h
theorem bat2 {v : AV} (h : isOne v = true) (q : Int) : allOnes [.int .i64 q, v] = true := by
  show (Bool.rec (motive := fun _ => Bool) false (Bool.rec (motive := fun _ => Bool) false true (isOne v)) true : Bool) = true
  rw [h]
theorem encV_len (q : Int) (l : List Wt) : (encV q l).length ≤ 140737488351232 := by
  unfold encV
  split
  · rename_i h
    unfold encE at h
    split at h
    · cases h
    · rename_i h0
      obtain ⟨_, c1, c2, _⟩ := chk_is h
      have := preB_len (s := q.toNat) (by omega) c1 c2 l.length
      rw [preB_all] at this
      omega
  · exact Nat.zero_le _
theorem RowP.one {α : Type} {f : α → List AV} {es : Nat} {h : H} {v : AV} {l : List α} (q : RowP f es h v l) : isOne v = true := by
  rcases q with ⟨rfl, rfl⟩ | ⟨id, c, ex, m, t, r, rfl, q2, q3⟩ <;> rfl
section
variable {KB : Bool → H → Prop}
theorem t3 (Q : H → Prop) {q n : Int} {l : List Wt} {wv bv : AV} {b : List UInt8} {h : H} (r : RowP wrc 3 h wv l) (sb : SlB h bv b) (gp : GP h) (hb : h.base ≤ h.next) (hl : l.length ≤ 140737488351232) (hbl : b.length ≤ 140737488351232) (hQ : ∀ h', Low h.next h h' → Q h') (hk : ∀ h', KB true h') :
    s3G J0 (pLiv Q) (s5G J0) (s6G J0) (s7G J0 (s26G J0)) (s8G J0 (s14G J0 (s39G J0)) (s27G J0) (s28G J0 (s27G J0))) (s9G J0 (s15G J0 (s40G J0)) (s29G J0 s30) s30 (s31G J0 (s29G J0 s30)))
      (s10G J0 (s14G J0 (s39G J0)) (s32G J0 (s51G J0 (s72G J0))) (s33G J0 (s32G J0 (s51G J0 (s72G J0))))) (s11G J0 (s9G J0 (s15G J0 (s40G J0)) (s29G J0 s30) s30 (s31G J0 (s29G J0 s30))) (s34G J0 (s52G J0 s30)) (s35G J0 (s34G J0 (s52G J0 s30))))
      (s12G J0 (s36G J0 (s53G J0 (s73G J0 (s87G J0) (s88G J0 (s98G J0) (s99G J0) (s100G J0)) (s89G J0)))) p37) (s13G J0 (s38G J0)) (s14G J0 (s39G J0)) (s15G J0 (s40G J0)) (s16G J0) (s17G J0 (s41G J0)) (s18G J0 (s6G J0) (s41G J0)) (s19G J0 (s7G J0 (s26G J0)) (s16G J0)) (.agg [.int .i64 q, wv]) bv n h KB := by
  unfold s3G p3_0
  rw [asAgg_agg, pushK_is]
  have l2 := Low.push h.next h (.cells false 24 [.int .i64 q, wv]) (Nat.le_refl _)
  have g2 := new_at h (.cells false 24 [.int .i64 q, wv])
  have n2 : (pushed h (.cells false 24 [.int .i64 q, wv])).next = h.next + 1 := rfl
  generalize pushed h (.cells false 24 [.int .i64 q, wv]) = h2 at l2 g2 n2 ⊢
  have b2 := l2.base
  unfold p3_1
  refine ⟨rfl, hQ h2 l2, ?_⟩
  dsimp only
  rw [asB_bool, fB_eq, Bool.not_true, br_f]
  unfold p3_2
  have r2 := r.low l2 (Nat.le_refl _)
  have sb2 := sb.low l2 (Nat.le_refl _)
  have W1 : ∀ k, ldV (.ptr h.next 1) h2 k = k wv := fun k => ldV_at g2 rfl k
  have WL := r2.len
  simp only [↓W1, ↓WL, ↓fB_eq, ltI_nat, ↓jn_is]
  by_cases h70 : 70 < l.length
  · rw [decide_eq_true h70]
    simp only [↓br_t, ↓br_f, ↓pickB_t, ↓pickB_f, ↓asB_bool]
    exact hk _
  rw [decide_eq_false h70]
  simp only [↓br_t, ↓br_f, ↓W1]
  refine t5 r2 (by omega) fun c => ?_
  cases c with
  | false =>
    simp only [↓br_t, ↓br_f, ↓pickB_t, ↓pickB_f, ↓asB_bool, ↓fB_eq, ↓Bool.not_false]
    exact hk _
  | true =>
  simp only [↓br_t, ↓br_f, ↓pickB_t, ↓pickB_f, ↓asB_bool, ↓fB_eq, ↓Bool.not_true]
  unfold p3_3
  dsimp only
  rw [W1]
  clear W1 WL
  refine t6 r2 (by omega) (by omega) fun v31 h30 g31 l30 => ?_
  have b30 := l30.base
  have n30 := l30.next
  refine t7 (sb2.low l30 (Nat.le_refl _)) (by omega) (by omega) fun v33 h32 r33 l32 => ?_
  have L32 := l30.trans (l32.down n30)
  have b32 := l32.base
  have n32 := l32.next
  have g32 := (L32.get h.next (by omega)).trans g2
  have r32 := r2.low L32 (Nat.le_refl _)
  unfold p3_4
  dsimp only
  rw [ldI_at g32 (o := 0) (x := q) rfl, ldV_at g32 (o := 1) (v := wv) rfl, r32.len]
  have gx32 := g31.keep l32 (Nat.le_refl _)
  refine GrowX.head (l := l) (m := [spW, spW, spW]) gx32 (by simp) fun v37 q37 o37 => ck_intro o37 ?_
  rw [pushK_is]
  rw [stN_new (n := 2) (cs' := [.int .i64 q, v37]) rfl (bat2 o37 q) rfl (by omega)]
  have l40 := Low.push h32.next h32 (.cells false 24 [.int .i64 q, v37]) (Nat.le_refl _)
  have g40 := new_at h32 (.cells false 24 [.int .i64 q, v37])
  have n40 : (pushed h32 (.cells false 24 [.int .i64 q, v37])).next = h32.next + 1 := rfl
  generalize pushed h32 (.cells false 24 [.int .i64 q, v37]) = h40 at l40 g40 n40 ⊢
  have L40 := L32.trans (l40.down (by omega))
  have b40 := l40.base
  unfold p3_5
  dsimp only
  rw [ldN_at g40 (n := 2) (l := [.int .i64 q, v37]) rfl]
  refine t8 (q37.low l40 (Nat.le_refl _)) (by omega) fun v43 h42 r43 l42 => ?_
  have L42 := L40.trans (l42.down (by omega))
  have b42 := l42.base
  have n42 := l42.next
  have g42 := (L42.get h.next (by omega)).trans g2
  unfold p3_6
  dsimp only
  rw [ldN_at g42 (n := 2) (l := [.int .i64 q, wv]) rfl]
  refine t9 (r2.low L42 (Nat.le_refl _)) (by omega) fun v47 h46 r47 l46 => ?_
  have L46 := L42.trans (l46.down (by omega))
  have b46 := l46.base
  have n46 := l46.next
  unfold p3_7
  dsimp only
  have sb46 := sb2.low L46 (Nat.le_refl _)
  rw [sb46.len]
  have c46 : Low h32.next h32 h46 := l40.trans ((l42.down (by omega)).trans (l46.down (by omega)))
  have sf46 := r33.slb.low c46 (Nat.le_refl _)
  refine sf46.head (by unfold lentB; simp) fun v50 s50 => ?_
  have e50 : (lentB b).take b.length = b := by unfold lentB; rw [List.take_left]
  rw [e50] at s50
  refine t10 s50 (by omega) (by omega) fun v52 x53 h51 l51 d51 => ?_
  have L51 := L46.trans (l51.down (by omega))
  have b51 := l51.base
  have n51 := l51.next
  obtain ⟨w1, rfl, rfl, q1⟩ := d51.is
  rw [pushK_is, asAgg_agg, stN_new (n := 2) (cs' := [.int .i64 (Int.ofNat (decN (decS b))), w1]) rfl (bat2 q1.one _) rfl (by omega)]
  have l56 := Low.push h51.next h51 (.cells false 24 [.int .i64 (Int.ofNat (decN (decS b))), w1]) (Nat.le_refl _)
  have g56 := new_at h51 (.cells false 24 [.int .i64 (Int.ofNat (decN (decS b))), w1])
  have n56 : (pushed h51 (.cells false 24 [.int .i64 (Int.ofNat (decN (decS b))), w1])).next = h51.next + 1 := rfl
  generalize pushed h51 (.cells false 24 [.int .i64 (Int.ofNat (decN (decS b))), w1]) = h56 at l56 g56 n56 ⊢
  have L56 := L51.trans (l56.down (by omega))
  have b56 := l56.base
  unfold p3_8
  dsimp only
  refine t11 (sb2.low L56 (Nat.le_refl _)) (by omega) (by omega) fun v59 x60 h58 l58 d58 => ?_
  have L58 := L56.trans (l58.down (by omega))
  have b58 := l58.base
  have n58 := l58.next
  obtain ⟨w2, rfl, rfl, q2⟩ := d58.is
  rw [pushK_is, asAgg_agg, stN_new (n := 2) (cs' := [.int .i64 (Int.ofNat (decN (decS b))), w2]) rfl (bat2 q2.one _) rfl (by omega)]
  have l63 := Low.push h58.next h58 (.cells false 24 [.int .i64 (Int.ofNat (decN (decS b))), w2]) (Nat.le_refl _)
  have g63 := new_at h58 (.cells false 24 [.int .i64 (Int.ofNat (decN (decS b))), w2])
  have n63 : (pushed h58 (.cells false 24 [.int .i64 (Int.ofNat (decN (decS b))), w2])).next = h58.next + 1 := rfl
  generalize pushed h58 (.cells false 24 [.int .i64 (Int.ofNat (decN (decS b))), w2]) = h63 at l63 g63 n63 ⊢
  have L63 := L58.trans (l63.down (by omega))
  have b63 := l63.base
  unfold p3_9
  dsimp only
  have gp2 := gp.low l2 (by obtain ⟨_, _, g⟩ := gp; omega)
  have p0 : 0 < h2.next := by omega
  refine t12 (gp2.low L63 p0) (by omega) fun h65 l65 => ?_
  have L65 := L63.trans (l65.down (by omega))
  have b65 := l65.base
  have n65 := l65.next
  unfold p3_10
  refine t13 ?_
  unfold p3_t
  dsimp only
  have c40 : Low h40.next h40 h65 := (l42.trans (l46.down n42)).trans (((l51.down (by omega)).trans ((l56.down (by omega)).trans (l58.down (by omega)))).trans ((l63.down (by omega)).trans (l65.down (by omega))))
  have g65 := (c40.get h32.next (by omega)).trans g40
  have g65' := (L65.get h.next (by omega)).trans g2
  rw [ldV_at g65 (o := 1) (v := v37) rfl, ldV_at g65' (o := 1) (v := wv) rfl]
  refine t14 ((q37.low l40 (Nat.le_refl _)).low c40 (Nat.le_refl _)) (by omega) fun h73 l73 => ?_
  have L73 := L65.trans (l73.down (by omega))
  have b73 := l73.base
  have n73 := l73.next
  have g73 := (L73.get h.next (by omega)).trans g2
  have r73 := r2.low L73 (Nat.le_refl _)
  refine ck_intro (reads_self (aLoad1_at g73) r73.self) ?_
  refine t15 r73 (by omega) fun h75 l75 => ?_
  have L75 := L73.trans (l75.down (by omega))
  have b75 := l75.base
  have n75 := l75.next
  have z1 := eqI_same (chkW l)
  have z2 := eqI_same (encE q l)
  have z3 := eqI_same (decR (decS b))
  have z4 := eqI_same (namE n)
  have z5 := beq_self' (namS n)
  simp only [↓jn_is, ↓jb_is0, ↓fB_eq, z1, z2, z3, z4, z5, ↓Bool.not_true, ↓br_t, ↓br_f, ↓pickB_t, ↓pickB_f, ↓asB_bool, ↓asI_int, ↓asS_str]
  have c42 : Low h42.next h42 h75 := (l46.trans (l51.down n46)).trans (((l56.down (by omega)).trans ((l58.down (by omega)).trans (l63.down (by omega)))).trans ((l65.down (by omega)).trans ((l73.down (by omega)).trans (l75.down (by omega)))))
  have c46' : Low h46.next h46 h75 := ((l51.trans (l56.down (by omega))).trans ((l58.down (by omega)).trans (l63.down (by omega)))).trans ((l65.down (by omega)).trans ((l73.down (by omega)).trans (l75.down (by omega))))
  have c56 : Low h56.next h56 h75 := (l58.trans (l63.down (by omega))).trans ((l65.down (by omega)).trans ((l73.down (by omega)).trans (l75.down (by omega))))
  have c63 : Low h63.next h63 h75 := l65.trans ((l73.down n65).trans (l75.down (by omega)))
  refine t16 (r43.slb.low c42 (Nat.le_refl _)) (r47.slb.low c46' (Nat.le_refl _)) (by have := encV_len q l; omega) ?_
  have g54 := (c56.get h51.next (by omega)).trans g56
  have g61 := (c63.get h58.next (by omega)).trans g63
  have i54 : ∀ k, ldN 2 (.ptr h51.next 0) h75 k = k [.int .i64 (Int.ofNat (decN (decS b))), w1] := fun k => ldN_at g54 (n := 2) rfl k
  have f54 : ∀ k : List AV → Prop, op' (lputAt 0 [.int .i64 (Int.ofNat (decN (decS b))), w1] [.int .i64 0, .nils]) k = k [.int .i64 (Int.ofNat (decN (decS b))), w1] := fun k => rfl
  have f61 : ∀ k : List AV → Prop, op' (lputAt 0 [.int .i64 (Int.ofNat (decN (decS b))), w2] [.int .i64 0, .nils]) k = k [.int .i64 (Int.ofNat (decN (decS b))), w2] := fun k => rfl
  have f2 : ∀ (x y : AV) (p : Prop), ck (Nat.beq (List.length [x, y]) 2) p = p := fun x y p => rfl
  simp only [↓br_t, ↓br_f, ↓Bool.not_true, ↓i54, ↓asAgg_agg, ↓f54, ↓f2, ↓pickB_t, ↓pickB_f, ↓asB_bool, ↓fB_eq]
  rw [pushK_is]
  have l155 := Low.push h75.next h75 (.cells false 24 [.int .i64 (Int.ofNat (decN (decS b))), w1]) (Nat.le_refl _)
  have g155 := new_at h75 (.cells false 24 [.int .i64 (Int.ofNat (decN (decS b))), w1])
  have n155 : (pushed h75 (.cells false 24 [.int .i64 (Int.ofNat (decN (decS b))), w1])).next = h75.next + 1 := rfl
  generalize pushed h75 (.cells false 24 [.int .i64 (Int.ofNat (decN (decS b))), w1]) = h155 at l155 g155 n155 ⊢
  have b155 := l155.base
  rw [ldN_at ((l155.get h58.next (by omega)).trans g61) (n := 2) (o := 0) (l := [.int .i64 (Int.ofNat (decN (decS b))), w2]) rfl, f2, f61, pushK_is]
  have l166 := Low.push h155.next h155 (.cells false 24 [.int .i64 (Int.ofNat (decN (decS b))), w2]) (Nat.le_refl _)
  have g166 := new_at h155 (.cells false 24 [.int .i64 (Int.ofNat (decN (decS b))), w2])
  have n166 : (pushed h155 (.cells false 24 [.int .i64 (Int.ofNat (decN (decS b))), w2])).next = h155.next + 1 := rfl
  generalize pushed h155 (.cells false 24 [.int .i64 (Int.ofNat (decN (decS b))), w2]) = h166 at l166 g166 n166 ⊢
  have b166 := l166.base
  have c51 : Low h51.next h51 h166 := (l56.trans (c56.down (by omega))).trans ((l155.down (by omega)).trans (l166.down (by omega)))
  have c58 : Low h58.next h58 h166 := (l63.trans (c63.down (by omega))).trans ((l155.down (by omega)).trans (l166.down (by omega)))
  refine t17 ((l166.get h75.next (by omega)).trans g155) g166 (q1.low c51 (Nat.le_refl _)) (q2.low c58 (Nat.le_refl _)) (Nat.le_trans (dec_len b) (by decide)) ?_
  rw [Bool.not_true, br_f]
  have L166 : Low h2.next h2 h166 := L75.trans ((l155.down (by omega)).trans (l166.down (by omega)))
  have c32 : Low h32.next h32 h166 := c46.trans ((c46'.down (by omega)).trans ((l155.down (by omega)).trans (l166.down (by omega))))
  rw [ldV_at ((L166.get h.next (by omega)).trans g2) (o := 1) (v := wv) rfl]
  refine t18 ((RowP.of gx32.row).low c32 (Nat.le_refl _)) (r2.low L166 (Nat.le_refl _)) (by omega) (by omega) fun h181 l181 => ?_
  simp only [↓br_t]
  refine t19 ((r33.slb.low c32 (Nat.le_refl _)).low l181 (Nat.le_refl _)) ((sb2.low L166 (Nat.le_refl _)).low l181 (Nat.le_refl _)) (by have := l181.base; have := l181.next; omega) (by omega) fun h192 l192 => ?_
  simp only [↓br_t, ↓br_f, ↓pickB_t, ↓pickB_f, ↓asB_bool]
  exact hk _
end
end Go.Proofs.YtcohflkjinpcpaaGreatDoor
