/- The law VfsRoom, walked: nothing is appended that does not fit. No condition. -/
import Derived.Test.YtiejkbmobmgdkaaPxG
import Derived.Test.YtiejkbmobmgdkaaVxX
import Derived.Test.YtiejkbmobmgdkaaSoI
namespace Go.Am
open Go
set_option linter.all false
theorem NmAt.only {L : Nat → Prop} {h h' : H} {v : AV} {l : List (List UInt8)} (n : NmAt h v l) (o : Only L h h') (hn : ∀ i, ¬ L i) : NmAt h' v l := by
  rcases n with c | ⟨b, mv, e1, e2⟩
  · exact .inl c
  · exact .inr ⟨b, mv, e1, o.at e2 rfl (hn b)⟩
theorem NmAt.len {h : H} {v : AV} {l : List (List UInt8)} (n : NmAt h v l) (k : Nat → Prop) : lenK v k = k l.length := by
  rcases n with ⟨rfl, rfl⟩ | ⟨b, mv, rfl, e2⟩ <;> rfl
theorem NmAt.read {h : H} {v : AV} {l : List (List UInt8)} (n : NmAt h v l) {i : Nat} (hi : i < l.length) {kk : IntKind} {k : AV → Prop} (q : ∀ b, (∀ K : Str → Prop, K (Str.of l[i]) → ldS (.ptr b i) h K) → k (.ptr b i)) : ixK 1 v (.int kk (Int.ofNat i)) k := by
  rcases n with ⟨rfl, rfl⟩ | ⟨b, mv, rfl, e2⟩
  · simp at hi
  · rw [ixK1 hi]
    refine q b fun K hK => ?_
    rw [ldS_at e2 (x := Str.of l[i])]
    · exact hK
    · rw [lgetO_get (by simpa using hi)]; simp
theorem take6 {L : List ActE} {j : Nat} (hj : j < L.length) : ltake 6 (ldrop (j * 6) (L.flatMap ActE.cells)) = some L[j].cells := by
  induction L generalizing j with
  | nil => simp at hj
  | cons a L ih =>
    cases j with
    | zero =>
      rw [List.flatMap_cons]
      show ltake 6 (a.cells ++ _) = some a.cells
      exact ltake_app a.cells _
    | succ j =>
      have h := ih (j := j) (by simpa using hj)
      rw [List.flatMap_cons, show (j + 1) * 6 = j * 6 + 6 by omega]
      exact h
end Go.Am
namespace Go.Proofs.Ytiejkbmobmgdkaa
open Go Go.Am
set_option linter.all false
set_option maxRecDepth 100000
theorem p22r {x : Int} {n : Nat} {h : H} {k : Int → H → Prop} (hn : 0 < n) (hn' : n < 1000000) (hk : ∀ r, 0 ≤ r → r < (n : Int) → k r h) : s22 x (Int.ofNat n) h k := by
  show s22G J0 x _ h k
  unfold s22G
  refine ck_intro (nzb (by simp only [Int.ofNat_eq_natCast]; omega)) ?_
  refine fI_r ?_
  obtain ⟨t1, t2⟩ := tmod_range x hn
  repeat with_reducible first | refine jn_r ?_ | refine jb_r ?_ | refine asS_r ?_ | refine brT_r ?_ | refine brF_r ?_ | refine pickT_r ?_ | refine pickF_r ?_ | refine asB_r ?_ | refine asI_r ?_ | refine asBUb_r ?_ | refine asBUs_r ?_ | refine lv_r ?_ | refine jd_r ?_
  refine fB_r ?_
  refine br_intro (fun h1 => ?_) fun h1 => ?_
  · have h1 := ltI_true.1 h1
    refine fIE_r (show wrapF .i64 (Int.add (Int.tmod x (Int.ofNat n)) (Int.ofNat n)) = Int.tmod x (Int.ofNat n) + n from wrap_i64_in (by show _ ≤ Int.tmod x (Int.ofNat n) + n; omega) (by show Int.tmod x (Int.ofNat n) + n < _; omega)) ?_
    repeat with_reducible first | refine jn_r ?_ | refine jb_r ?_ | refine asS_r ?_ | refine brT_r ?_ | refine brF_r ?_ | refine pickT_r ?_ | refine pickF_r ?_ | refine asB_r ?_ | refine asI_r ?_ | refine asBUb_r ?_ | refine asBUs_r ?_ | refine lv_r ?_ | refine jd_r ?_
    exact hk _ (by omega) (by have : Int.tmod x (Int.ofNat n) < 0 := h1; omega)
  · have h1 := ltI_false.1 h1
    repeat with_reducible first | refine jn_r ?_ | refine jb_r ?_ | refine asS_r ?_ | refine brT_r ?_ | refine brF_r ?_ | refine pickT_r ?_ | refine pickF_r ?_ | refine asB_r ?_ | refine asI_r ?_ | refine asBUb_r ?_ | refine asBUs_r ?_ | refine lv_r ?_ | refine jd_r ?_
    exact hk _ h1 t2
set_option maxHeartbeats 4000000 in
theorem t4 {h : H} {a1 : AV} {L : List ActE} {room : Int} {K : Bool → H → Prop} (hb : h.base ≤ h.next) (hp : Acts h a1 L) (hK : ∀ h', K true h') : s4G J0 pLives s10 s11 s12 s14 s16 s17' s20 s22 s23 s24 s25 s26F s27' room a1 h K := by
  have hm : mostRoom = 140737488355328 := rfl
  unfold s4G
  refine pl_r ?_
  refine fB_r ?_
  refine brF_r ?_
  refine p22r (n := 2000) (by decide) (by decide) fun rm rm0 rm1 => ?_
  refine p10 hb rm0 (by omega) fun h1 f1 o1 => ?_
  obtain ⟨g1, hg1⟩ : ∃ g1 : FsG, g1 = ⟨h.next + 2, h.next, h.next + 1, none⟩ := ⟨_, rfl⟩
  rw [← hg1] at f1
  rw [show h.next + 2 = g1.id by rw [hg1]]
  have i1 := Fs.new_inv rm
  have hp1 := hp.only o1 fun _ _ z => z
  refine fBE_r nz0 ?_
  repeat with_reducible first | refine jn_r ?_ | refine jb_r ?_ | refine asS_r ?_ | refine brT_r ?_ | refine brF_r ?_ | refine pickT_r ?_ | refine pickF_r ?_ | refine asB_r ?_ | refine asI_r ?_ | refine asBUb_r ?_ | refine asBUs_r ?_ | refine lv_r ?_
  refine p23 hp1 ?_
  by_cases c1 : smallL L = true
  rotate_left
  · rw [show smallL L = false by simpa using c1]
    refine fBE_r (show Bool.not false = true from rfl) ?_
    repeat with_reducible first | refine jn_r ?_ | refine jb_r ?_ | refine asS_r ?_ | refine brT_r ?_ | refine brF_r ?_ | refine pickT_r ?_ | refine pickF_r ?_ | refine asB_r ?_ | refine asI_r ?_ | refine asBUb_r ?_ | refine asBUs_r ?_ | refine lv_r ?_
    exact hK _
  rw [c1]
  refine fBE_r (show Bool.not true = false from rfl) ?_
  repeat with_reducible first | refine jn_r ?_ | refine jb_r ?_ | refine asS_r ?_ | refine brT_r ?_ | refine brF_r ?_ | refine pickT_r ?_ | refine pickF_r ?_ | refine asB_r ?_ | refine asI_r ?_ | refine asBUb_r ?_ | refine asBUs_r ?_ | refine lv_r ?_
  unfold smallL at c1
  rw [Bool.and_eq_true, decide_eq_true_iff] at c1
  obtain ⟨hs1, hs2⟩ := c1
  have hs1 := List.all_eq_true.1 hs1
  have cm1 : CalmR rm (Fs.new rm) := ⟨rfl, rfl, rfl⟩
  refine lp_rule (fun m v d h' => ∃ j g fs N, m = L.length - j ∧ j ≤ L.length ∧ v = (.int .i64 rm, a1, .ptr g.id 0, .int .i64 (Int.ofNat j), ()) ∧ d = [] ∧ FsAt h' g fs ∧ Am.Inv fs N (10 + j) ∧ N ≤ 1000 + 40000 * j ∧ CalmR rm fs ∧ Acts h' a1 L) (fun m self v d hc inv next => ?_) (n := L.length) hp.len ⟨0, g1, _, 0, rfl, Nat.zero_le _, rfl, rfl, f1, i1.mono (Nat.le_refl _) (by omega), by omega, cm1, hp1⟩
  obtain ⟨j, g, fs, N, rfl, hle, rfl, rfl, f, i, hN, cm, hpc⟩ := inv
  dsimp only
  refine (hpc.lenK _).mpr ?_
  repeat with_reducible first | refine jn_r ?_ | refine jb_r ?_ | refine asS_r ?_ | refine brT_r ?_ | refine brF_r ?_ | refine pickT_r ?_ | refine pickF_r ?_ | refine asB_r ?_ | refine asI_r ?_ | refine asBUb_r ?_ | refine asBUs_r ?_ | refine lv_r ?_ | refine jd_r ?_
  by_cases hj2 : j < L.length
  rotate_left
  · refine fBE_r (ltI_nat'.2 (Nat.not_lt.1 hj2)) ?_
    repeat with_reducible first | refine jn_r ?_ | refine jb_r ?_ | refine asS_r ?_ | refine brT_r ?_ | refine brF_r ?_ | refine pickT_r ?_ | refine pickF_r ?_ | refine asB_r ?_ | refine asI_r ?_ | refine asBUb_r ?_ | refine asBUs_r ?_ | refine lv_r ?_ | refine jd_r ?_
    exact hK _
  refine fBE_r (ltI_nat.2 hj2) ?_
  repeat with_reducible first | refine jn_r ?_ | refine jb_r ?_ | refine asS_r ?_ | refine brT_r ?_ | refine brF_r ?_ | refine pickT_r ?_ | refine pickF_r ?_ | refine asB_r ?_ | refine asI_r ?_ | refine asBUb_r ?_ | refine asBUs_r ?_ | refine lv_r ?_ | refine jd_r ?_
  have hsm := hs1 L[j] (List.getElem_mem hj2)
  unfold smallA at hsm
  rw [Bool.and_eq_true, decide_eq_true_iff] at hsm
  have hb4 := hsm.1
  refine hpc.read hj2 fun id tt hg => ?_
  rw [ldN_at hg (take6 hj2)]
  refine push_r fun h23 o23 n23 g23 => ?_
  have hel := hpc.els L[j] (List.getElem_mem hj2)
  refine stN_r g23 rfl (by show (Bool.rec _ _ (isOne L[j].bv)) = true; rw [hel.one]) rfl (by rw [o23.base]; exact f.wf) fun h24 o24 n24 g24 => ?_
  have o4 : Only noL hc h24 := o23.trans o24 fun q hq e => by omega
  have f4 := f.only o4 fun _ _ z => z
  have hp4 := hpc.only o4 fun _ _ z => z
  have hel4 := hel.only o4
  have g24 : h24.get hc.next = .cells false 44 [.int .i64 L[j].kind, .str (Str.of L[j].name), .str (Str.of L[j].other), .int .i64 L[j].n, .int .i64 L[j].t, L[j].bv] := g24
  clear f hpc hel hg
  refine jd_intro (fun v d h' => ∃ g2 fs2 N2 fits, v = (.int .i64 rm, a1, .ptr g2.id 0, .int .i64 (Int.ofNat j), .bool fits, ()) ∧ d = [] ∧ FsAt h' g2 fs2 ∧ Am.Inv fs2 N2 (10 + (j + 1)) ∧ N2 ≤ 1000 + 40000 * (j + 1) ∧ CalmR rm fs2 ∧ (fits = true → (fs2.holds : Int) ≤ rm) ∧ Acts h' a1 L) (fun j28 hj => ?_) fun v d h2 q => ?_
  · -- the act
    have fit' := i.fit.mono (show N ≤ mostRoom by omega)
    have hwl := i.fit.wait
    have nx : ∀ {h5 : H} {g5 : FsG} {fs5 : Fs} {N5 : Nat} {fits : Bool}, FsAt h5 g5 fs5 → Nxt h24 g h5 g5 → Am.Inv fs5 N5 (10 + (j + 1)) → N5 ≤ N + 40000 → CalmR rm fs5 → (fits = true → (fs5.holds : Int) ≤ rm) → j28 (.int .i64 rm, a1, .ptr g.id 0, .int .i64 (Int.ofNat j), .bool fits, ()) [] h5 := by
      intro h5 g5 fs5 N5 fits f5 n5 i5 hN5 cm5 hf5
      rw [← n5.id]
      exact hj _ _ _ ⟨g5, fs5, N5, fits, rfl, rfl, f5, i5, by omega, cm5, hf5, hp4.only n5.o (Own.low f4)⟩
    rw [ldI_at g24 rfl]
    refine p22r (n := 7) (by decide) (by decide) fun r _ _ => ?_
    refine fB_r ?_
    refine br_intro (fun _ => ?_) fun _ => ?_
    · rw [ldS_at g24 rfl]
      refine p11 f4 fit' (by omega) fun h5 g5 f5 n5 => ?_
      exact nx f5 n5 (i.create (by omega) (by omega) _) (by omega) (cm.op (.create i (by omega) _) (create_room _ _)) fun e => by cases e
    refine fB_r ?_
    refine br_intro (fun _ => ?_) fun _ => ?_
    · rw [ldS_at g24 rfl, ldV_at g24 rfl]
      refine p16 f4 hel4 i.fit (by omega) (Nat.le_trans i.held.len (by omega)) fun h5 g5 f5 n5 => ?_
      refine fB_r ?_
      refine nx f5 n5 ((i.append _ _ (by omega)).mono (Nat.le_refl _) (by omega)) (by omega) (cm.op (.append i _ _ (by omega)) (append_room _ _ _)) fun e => ?_
      exact append_fits cm i (Nat.le_trans (Nat.mul_le_mul (show 10 + j ≤ 1000 by omega) (show N ≤ 5000000 by omega)) (by omega)) ⟨rm0, by omega⟩ (by omega) (eqI_true.1 e)
    refine fB_r ?_
    refine br_intro (fun _ => ?_) fun _ => ?_
    · rw [ldS_at g24 rfl, ldS_at g24 rfl]
      refine p24 f4 fit' (by omega) fun h5 g5 f5 n5 => ?_
      exact nx f5 n5 (i.rename (by omega) _ _) (by omega) (cm.op (.rename i (by omega) _ _) (rename_room _ _ _)) fun e => by cases e
    refine fB_r ?_
    refine br_intro (fun _ => ?_) fun _ => ?_
    · rw [ldS_at g24 rfl]
      refine p25 f4 fit' (by omega) fun h5 g5 f5 n5 => ?_
      exact nx f5 n5 ((i.remove (by omega) _).mono (Nat.le_refl _) (by omega)) (by omega) (cm.op (.remove i (by omega) _) (remove_room _ _)) fun e => by cases e
    refine fB_r ?_
    refine br_intro (fun _ => ?_) fun _ => ?_
    · rw [ldS_at g24 rfl]
      refine p14 f4 fit' fun h5 g5 f5 n5 => ?_
      exact nx f5 n5 ((i.sync (by omega) _).mono (Nat.le_refl _) (by omega)) (by omega) (cm.op (.sync i (by omega) _) (sync_room _ _)) fun e => by cases e
    refine fB_r ?_
    refine br_intro (fun _ => ?_) fun _ => ?_
    · refine p12 f4 fit' fun h5 g5 f5 n5 => ?_
      exact nx f5 n5 ((i.syncNames (by omega)).mono (Nat.le_refl _) (by omega)) (by omega) (cm.op (.syncNames i (by omega)) (syncNames_room _)) fun e => by cases e
    · rw [ldI_at g24 rfl, ldI_at g24 rfl]
      refine p17 f4 i (by omega) (by omega) fun h5 g5 f5 n5 => ?_
      exact nx f5 n5 ((i.crash _ _).mono (Nat.le_refl _) (by omega)) (by omega) (cm.crash _ _) fun e => by cases e
  · -- what is told behind it
    obtain ⟨g2, fs2, N2, fits, rfl, rfl, f2, i2, hN2, cm2, hf2, hp2⟩ := q
    dsimp only
    have hcN : (10 + (j + 1)) * N2 ≤ 4611686018427387904 := Nat.le_trans (Nat.mul_le_mul (show 10 + (j + 1) ≤ 1000 by omega) (show N2 ≤ 5000000 by omega)) (by omega)
    have hus := i2.used
    have hnl := i2.held.len
    have hus' : used fs2.held.files fs2.held.names ≤ 5000000000 := Nat.le_trans hus (Nat.le_trans (Nat.mul_le_mul (show 10 + (j + 1) ≤ 1000 by omega) (show N2 ≤ 5000000 by omega)) (by omega))
    refine p26 f2 i2 (by omega) (by omega) fun nv h3 f3 o3 nm3 => ?_
    rw [cm2.off] at nm3
    have nm3 : NmAt h3 nv (fs2.held.names.map (·.1)) := nm3
    have hp3 := hp2.only o3 fun _ _ z => z
    refine lp_rule (fun m v d h' => ∃ k, m = fs2.held.names.length - k ∧ k ≤ fs2.held.names.length ∧ v = (.int .i64 rm, a1, .ptr g2.id 0, .int .i64 (Int.ofNat j), .bool fits, .int .i64 (rm - (used fs2.held.files (fs2.held.names.take k) : Int)), nv, .int .i64 (Int.ofNat k), ()) ∧ d = [] ∧ FsAt h' g2 fs2 ∧ NmAt h' nv (fs2.held.names.map (·.1)) ∧ Acts h' a1 L) (fun m3 self3 v3 d3 h4 inv3 next3 => ?_) (n := fs2.held.names.length) (by show _ < 4611686018427387904; have := i2.held.len; omega) ⟨0, rfl, Nat.zero_le _, by rw [List.take_zero]; show _ = (_, _, _, _, _, AV.int .i64 (rm - ((0 : Nat) : Int)), _, _, _); rw [show rm - ((0 : Nat) : Int) = rm by omega], rfl, f3, nm3, hp3⟩
    obtain ⟨k, rfl, hkl, rfl, rfl, f4', nm4, hp5⟩ := inv3
    dsimp only
    refine (nm4.len _).mpr ?_
    rw [List.length_map]
    repeat with_reducible first | refine jn_r ?_ | refine jb_r ?_ | refine asS_r ?_ | refine brT_r ?_ | refine brF_r ?_ | refine pickT_r ?_ | refine pickF_r ?_ | refine asB_r ?_ | refine asI_r ?_ | refine asBUb_r ?_ | refine asBUs_r ?_ | refine lv_r ?_ | refine jd_r ?_
    refine fBE_r ltD ?_
    by_cases hk2 : k < fs2.held.names.length
    · rw [decide_eq_true hk2]
      repeat with_reducible first | refine jn_r ?_ | refine jb_r ?_ | refine asS_r ?_ | refine brT_r ?_ | refine brF_r ?_ | refine pickT_r ?_ | refine pickF_r ?_ | refine asB_r ?_ | refine asI_r ?_ | refine asBUb_r ?_ | refine asBUs_r ?_ | refine lv_r ?_ | refine jd_r ?_
      have hkm : k < (fs2.held.names.map (·.1)).length := by rw [List.length_map]; exact hk2
      have hgk : (fs2.held.names.map (·.1))[k] = fs2.held.names[k].1 := by simp
      refine nm4.read hkm fun b1 q1 => ?_
      refine q1 _ ?_
      rw [hgk]
      refine p20 f4' (i2.fit.mono (by omega)) fun rv h5 f5 o5 hrv => ?_
      have hget := i2.held.ns.get (List.getElem_mem hk2)
      have hrd := read_is cm2.off (i2.held.nmd _ _ hget) hget
      rw [hrd] at hrv ⊢
      have hrv : SlB h5 rv (fbytes fs2.held.files fs2.held.names[k].2) := hrv
      have nm5 := nm4.only o5 fun _ z => z
      have hp6 := hp5.only o5 fun _ _ z => z
      refine fBE_r nz0 ?_
      repeat with_reducible first | refine jn_r ?_ | refine jb_r ?_ | refine asS_r ?_ | refine brT_r ?_ | refine brF_r ?_ | refine pickT_r ?_ | refine pickF_r ?_ | refine asB_r ?_ | refine asI_r ?_ | refine asBUb_r ?_ | refine asBUs_r ?_ | refine lv_r ?_ | refine jd_r ?_
      refine fBE_r (show ltI (Int.ofNat 0) (Int.ofNat k) = decide (0 < k) from ltD) ?_
      -- the next one
      suffices go : True → _ by
        by_cases hk0 : 0 < k
        · rw [decide_eq_true hk0]
          repeat with_reducible first | refine jn_r ?_ | refine jb_r ?_ | refine asS_r ?_ | refine brT_r ?_ | refine brF_r ?_ | refine pickT_r ?_ | refine pickF_r ?_ | refine asB_r ?_ | refine asI_r ?_ | refine asBUb_r ?_ | refine asBUs_r ?_ | refine lv_r ?_ | refine jd_r ?_
          refine nm5.read hkm fun b2 q2 => ?_
          repeat with_reducible first | refine jn_r ?_ | refine jb_r ?_ | refine asS_r ?_ | refine brT_r ?_ | refine brF_r ?_ | refine pickT_r ?_ | refine pickF_r ?_ | refine asB_r ?_ | refine asI_r ?_ | refine asBUb_r ?_ | refine asBUs_r ?_ | refine lv_r ?_ | refine jd_r ?_
          refine q2 _ ?_
          repeat with_reducible first | refine jn_r ?_ | refine jb_r ?_ | refine asS_r ?_ | refine brT_r ?_ | refine brF_r ?_ | refine pickT_r ?_ | refine pickF_r ?_ | refine asB_r ?_ | refine asI_r ?_ | refine asBUb_r ?_ | refine asBUs_r ?_ | refine lv_r ?_ | refine jd_r ?_
          refine fIE_r (dec_nat (by omega) (by omega)) ?_
          repeat with_reducible first | refine jn_r ?_ | refine jb_r ?_ | refine asS_r ?_ | refine brT_r ?_ | refine brF_r ?_ | refine pickT_r ?_ | refine pickF_r ?_ | refine asB_r ?_ | refine asI_r ?_ | refine asBUb_r ?_ | refine asBUs_r ?_ | refine lv_r ?_ | refine jd_r ?_
          refine nm5.read (i := k - 1) (by omega) fun b3 q3 => ?_
          repeat with_reducible first | refine jn_r ?_ | refine jb_r ?_ | refine asS_r ?_ | refine brT_r ?_ | refine brF_r ?_ | refine pickT_r ?_ | refine pickF_r ?_ | refine asB_r ?_ | refine asI_r ?_ | refine asBUb_r ?_ | refine asBUs_r ?_ | refine lv_r ?_ | refine jd_r ?_
          refine q3 _ ?_
          repeat with_reducible first | refine jn_r ?_ | refine jb_r ?_ | refine asS_r ?_ | refine brT_r ?_ | refine brF_r ?_ | refine pickT_r ?_ | refine pickF_r ?_ | refine asB_r ?_ | refine asI_r ?_ | refine asBUb_r ?_ | refine asBUs_r ?_ | refine lv_r ?_ | refine jd_r ?_
          have hlt : Str.lt (Str.of (fs2.held.names.map (·.1))[k - 1]) (Str.of (fs2.held.names.map (·.1))[k]) = true := by
            rw [Str.lt_of]
            simp only [List.getElem_map]
            exact List.pairwise_iff_getElem.1 i2.held.ns (k - 1) k (by omega) hk2 (by omega)
          have hlt' : Bool.not (Str.lt (Str.of (fs2.held.names.map (·.1))[k - 1]) (Str.of (fs2.held.names.map (·.1))[k])) = false := by rw [hlt]; rfl
          refine fBE_r hlt' ?_
          repeat with_reducible first | refine jn_r ?_ | refine jb_r ?_ | refine asS_r ?_ | refine brT_r ?_ | refine brF_r ?_ | refine pickT_r ?_ | refine pickF_r ?_ | refine asB_r ?_ | refine asI_r ?_ | refine asBUb_r ?_ | refine asBUs_r ?_ | refine lv_r ?_ | refine jd_r ?_
          exact go trivial
        · rw [decide_eq_false hk0]
          repeat with_reducible first | refine jn_r ?_ | refine jb_r ?_ | refine asS_r ?_ | refine brT_r ?_ | refine brF_r ?_ | refine pickT_r ?_ | refine pickF_r ?_ | refine asB_r ?_ | refine asI_r ?_ | refine asBUb_r ?_ | refine asBUs_r ?_ | refine lv_r ?_ | refine jd_r ?_
          exact go trivial
      intro _
      refine (hrv.len _).mpr ?_
      repeat with_reducible first | refine jn_r ?_ | refine jb_r ?_ | refine asS_r ?_ | refine brT_r ?_ | refine brF_r ?_ | refine pickT_r ?_ | refine pickF_r ?_ | refine asB_r ?_ | refine asI_r ?_ | refine asBUb_r ?_ | refine asBUs_r ?_ | refine lv_r ?_ | refine jd_r ?_
      have hut := used_take (fl := fs2.held.files) hk2
      have hutl := used_take_le (fl := fs2.held.files) fs2.held.names (k + 1)
      refine fIE_r (show wrapF .i64 (Int.sub (rm - (used fs2.held.files (fs2.held.names.take k) : Int)) (Int.ofNat (fbytes fs2.held.files fs2.held.names[k].2).length)) = rm - (used fs2.held.files (fs2.held.names.take (k + 1)) : Int) by
        have e : Int.sub (rm - (used fs2.held.files (fs2.held.names.take k) : Int)) (Int.ofNat (fbytes fs2.held.files fs2.held.names[k].2).length) = rm - (used fs2.held.files (fs2.held.names.take (k + 1)) : Int) := by
          show rm - _ - _ = _
          rw [hut]; simp only [Int.ofNat_eq_natCast]; omega
        rw [e]; exact wrap_i64_in (by omega) (by omega)) ?_
      repeat with_reducible first | refine jn_r ?_ | refine jb_r ?_ | refine asS_r ?_ | refine brT_r ?_ | refine brF_r ?_ | refine pickT_r ?_ | refine pickF_r ?_ | refine asB_r ?_ | refine asI_r ?_ | refine asBUb_r ?_ | refine asBUs_r ?_ | refine lv_r ?_ | refine jd_r ?_
      refine fIE_r (add_nat (i := k) (j := 1) (by omega)) ?_
      exact next3 (fs2.held.names.length - (k + 1)) _ _ _ (by omega) ⟨k + 1, rfl, hk2, rfl, rfl, f5, nm5, hp6⟩
    · rw [decide_eq_false hk2]
      repeat with_reducible first | refine jn_r ?_ | refine jb_r ?_ | refine asS_r ?_ | refine brT_r ?_ | refine brF_r ?_ | refine pickT_r ?_ | refine pickF_r ?_ | refine asB_r ?_ | refine asI_r ?_ | refine asBUb_r ?_ | refine asBUs_r ?_ | refine lv_r ?_ | refine jd_r ?_
      have hke : k = fs2.held.names.length := by omega
      subst hke
      rw [List.take_length]
      refine p27 f4' (i2.fit.mono (by omega)) (Nat.le_trans i2.held.len (by omega)) fun h5 f5 o5 => ?_
      rw [space_is i2 hcN (by rw [cm2.room]; omega) cm2.off, cm2.room]
      have hp6 := hp5.only o5 fun _ _ z => z
      repeat with_reducible first | refine jn_r ?_ | refine jb_r ?_ | refine asS_r ?_ | refine brT_r ?_ | refine brF_r ?_ | refine pickT_r ?_ | refine pickF_r ?_ | refine asB_r ?_ | refine asI_r ?_ | refine asBUb_r ?_ | refine asBUs_r ?_ | refine lv_r ?_ | refine jd_r ?_
      refine fBE_r (show Bool.not (eqI _ _) = false by rw [eqI_true.2 rfl]; rfl) ?_
      repeat with_reducible first | refine jn_r ?_ | refine jb_r ?_ | refine asS_r ?_ | refine brT_r ?_ | refine brF_r ?_ | refine pickT_r ?_ | refine pickF_r ?_ | refine asB_r ?_ | refine asI_r ?_ | refine asBUb_r ?_ | refine asBUs_r ?_ | refine lv_r ?_ | refine jd_r ?_
      suffices go : True → _ by
        cases fits with
        | true =>
          repeat with_reducible first | refine jn_r ?_ | refine jb_r ?_ | refine asS_r ?_ | refine brT_r ?_ | refine brF_r ?_ | refine pickT_r ?_ | refine pickF_r ?_ | refine asB_r ?_ | refine asI_r ?_ | refine asBUb_r ?_ | refine asBUs_r ?_ | refine lv_r ?_ | refine jd_r ?_
          refine fBE_r (ltI_false.2 (show (0 : Int) ≤ _ by have := hf2 rfl; unfold Fs.holds at this; omega)) ?_
          repeat with_reducible first | refine jn_r ?_ | refine jb_r ?_ | refine asS_r ?_ | refine brT_r ?_ | refine brF_r ?_ | refine pickT_r ?_ | refine pickF_r ?_ | refine asB_r ?_ | refine asI_r ?_ | refine asBUb_r ?_ | refine asBUs_r ?_ | refine lv_r ?_ | refine jd_r ?_
          exact go trivial
        | false =>
          repeat with_reducible first | refine jn_r ?_ | refine jb_r ?_ | refine asS_r ?_ | refine brT_r ?_ | refine brF_r ?_ | refine pickT_r ?_ | refine pickF_r ?_ | refine asB_r ?_ | refine asI_r ?_ | refine asBUb_r ?_ | refine asBUs_r ?_ | refine lv_r ?_ | refine jd_r ?_
          exact go trivial
      intro _
      refine fIE_r (add_nat (i := j) (j := 1) (by omega)) ?_
      exact next (L.length - (j + 1)) _ _ _ (by omega) ⟨j + 1, g2, fs2, N2, rfl, hj2, rfl, rfl, f5, i2, hN2, cm2, hp6⟩
end Go.Proofs.Ytiejkbmobmgdkaa
