/- The law VfsMoves, walked: a file is put in the place of another one wholly or not at all. No condition. -/
import Derived.Test.YtiejkbmobmgdkaaVxS0
namespace Go.Proofs.Ytiejkbmobmgdkaa
open Go Go.Am
set_option linter.all false
set_option maxRecDepth 100000
noncomputable def tail5 (k : Bool → H → Prop) (v47 a0 a1 : AV) (a3 a4 : Int) (b188 : Bool) (h184 : H) : Prop :=
s17' v47 a3 a4 h184 fun x190 h189 =>
fB (Bool.not (eqI x190 (Int.ofNat 0))) fun b191 =>
br b191 (
k false h189) (
s20 v47 (Str.of curB) h189 fun v193 x194 h192 =>
fB (Bool.not (eqI x194 (Int.ofNat 0))) fun b195 =>
br b195 (
k false h192) (
s21 v193 a1 h192 fun b197 h196 =>
J0.jn (fun v198 h199 =>
J0.jn (fun v201 h202 =>
J0.jn (fun v206 h207 =>
J0.jn (fun v209 h210 =>
J0.jn (fun v212 h213 =>
J0.jn (fun v215 h216 =>
J0.jn (fun v220 h221 =>
pickB (AV.bool b197) (AV.bool true) v220 fun b224 =>
k b224 h221) fun j222 =>
br b197 (
j222 skipV h216) (
pickB v206 v215 (AV.bool false) fun b223 =>
j222 (AV.bool b223) h216)) fun j217 =>
asBU v206 (fun b225 =>
br b225 (
s21 v209 v212 h213 fun b219 h218 =>
j217 (AV.bool b219) h218) (
j217 skipV h213)) (
j217 skipV h213)) fun j214 =>
asBU v206 (fun b226 =>
br b226 (
j214 a0 h210) (
j214 skipV h210)) (
j214 skipV h210)) fun j211 =>
asBU v206 (fun b227 =>
br b227 (
j211 v193 h207) (
j211 skipV h207)) (
j211 skipV h207)) fun j208 =>
br b197 (
j208 skipV h202) (
j208 v201 h202)) fun j203 =>
br b197 (
j203 skipV h199) (
asB v198 fun b204 =>
fB (Bool.not b204) fun b205 =>
j203 (AV.bool b205) h199)) fun j200 =>
br b197 (
j200 skipV h196) (
j200 (AV.bool b188) h196)))
theorem zz : eqI (0 : Int) (Int.ofNat 0) = true := eqI_true.2 rfl
theorem str_cur : (⟨7, 27995157100326516⟩ : Str) = Str.of curB := by kernel_rfl
theorem str_new : (⟨3, 7234935⟩ : Str) = Str.of newB := by kernel_rfl
theorem tail5_ok {h : H} {g : FsG} {fs : Fs} {N c : Nat} {v w : AV} {old now : List UInt8} {k t : Int} {b : Bool} {K : Bool → H → Prop} (f : FsAt h g fs) (i : Inv fs N c) (hN : N ≤ 1000000) (hc : c ≤ 1000) (hk : 0 ≤ k) (ht : 0 ≤ t) (hv : SlB h v old) (hw : SlB h w now) (ho : old.length ≤ 400) (hn : now.length ≤ 400) (q : Q5 old now b fs) (hK : ∀ h', K true h') : tail5 K (.ptr g.id 0) v w k t b h := by
  have hm : mostRoom = 140737488355328 := rfl
  unfold tail5
  refine p17 f i (by omega) (by omega) fun h1 g1 f1 n1 => ?_
  obtain ⟨c1, _⟩ := crash_is i hk ht
  have i1 := i.crash k t
  obtain ⟨r, e1, e2⟩ := q k t hk ht
  rw [c1, zz]
  simp only [fB_eq, Bool.not_true, br_f]
  rw [← n1.id]
  refine p20 f1 (i1.fit.mono (by omega)) fun v' h2 f2 o2 hv' => ?_
  have hr : r.length ≤ 400 := by rcases e2 with rfl | ⟨_, rfl⟩ <;> assumption
  rw [e1] at hv' ⊢
  simp -implicitDefEqProofs only [zz, Bool.not_true, br_f]
  have o := n1.o.trans o2 (L' := noL) fun _ _ c => c.elim
  refine p21 hv' (hw.only o) (by show r.length < _; omega) ?_
  by_cases er : r = now
  · rw [decide_eq_true (show (r, (0 : Int)).1 = now from er)]
    simp -implicitDefEqProofs only [jn_is, br_t, pickB_t, asB_bool, asBU_bool, asBU_skip, br_f, pickB_f]
    exact hK _
  · obtain ⟨rfl, rfl⟩ := e2.resolve_left er
    rw [decide_eq_false (show ¬ (r, (0 : Int)).1 = now from er)]
    simp -implicitDefEqProofs only [jn_is, br_f, asB_bool, fB_eq, Bool.not_false, asBU_bool, asBU_skip, br_t, pickB_t, pickB_f]
    refine p21 hv' (hv.only o) (by show r.length < _; omega) ?_
    rw [decide_eq_true (show (r, (0 : Int)).1 = r from rfl)]
    exact hK _
theorem nz0 : Bool.not (eqI (0 : Int) (Int.ofNat 0)) = false := by rw [zz]; rfl
theorem t5 {h : H} {v w : AV} {old now : List UInt8} {fuse k t : Int} {K : Bool → H → Prop} (hb : h.base ≤ h.next) (hv : SlB h v old) (hw : SlB h w now) (hfu : fuse < 9223372036854775808) (hK : ∀ h', K true h') : s5G J0 pLives s10 s11 s12 s13 s14 s16 s17' s20 s21 s24 v w fuse k t h K := by
  have hm : mostRoom = 140737488355328 := rfl
  unfold s5G pLives
  refine fB_r ?_
  refine brF_r ?_
  refine (hv.len _).mpr ?_
  by_cases c1 : old.length ≤ 400
  rotate_left
  · refine fBE_r (ltI_nat.2 (show 400 < old.length by omega)) ?_
    repeat with_reducible first | refine jn_r ?_ | refine brT_r ?_ | refine brF_r ?_ | refine pickT_r ?_ | refine pickF_r ?_ | refine asB_r ?_ | refine asI_r ?_ | refine asBUb_r ?_ | refine asBUs_r ?_
    exact hK _
  refine fBE_r (ltI_nat'.2 c1) ?_
  repeat with_reducible first | refine jn_r ?_ | refine brT_r ?_ | refine brF_r ?_ | refine pickT_r ?_ | refine pickF_r ?_ | refine asB_r ?_ | refine asI_r ?_ | refine asBUb_r ?_ | refine asBUs_r ?_
  refine (hw.len _).mpr ?_
  repeat with_reducible first | refine jn_r ?_ | refine brT_r ?_ | refine brF_r ?_ | refine pickT_r ?_ | refine pickF_r ?_ | refine asB_r ?_ | refine asI_r ?_ | refine asBUb_r ?_ | refine asBUs_r ?_
  by_cases c2 : now.length ≤ 400
  rotate_left
  · refine fBE_r (ltI_nat.2 (show 400 < now.length by omega)) ?_
    repeat with_reducible first | refine jn_r ?_ | refine brT_r ?_ | refine brF_r ?_ | refine pickT_r ?_ | refine pickF_r ?_ | refine asB_r ?_ | refine asI_r ?_ | refine asBUb_r ?_ | refine asBUs_r ?_
    exact hK _
  refine fBE_r (ltI_nat'.2 c2) ?_
  repeat with_reducible first | refine jn_r ?_ | refine brT_r ?_ | refine brF_r ?_ | refine pickT_r ?_ | refine pickF_r ?_ | refine asB_r ?_ | refine asI_r ?_ | refine asBUb_r ?_ | refine asBUs_r ?_
  by_cases c3 : 0 ≤ k
  rotate_left
  · refine fBE_r (ltI_true.2 (by simp only [Int.ofNat_eq_natCast]; omega)) ?_
    repeat with_reducible first | refine jn_r ?_ | refine brT_r ?_ | refine brF_r ?_ | refine pickT_r ?_ | refine pickF_r ?_ | refine asB_r ?_ | refine asI_r ?_ | refine asBUb_r ?_ | refine asBUs_r ?_
    exact hK _
  refine fBE_r (ltI_false.2 (by simp only [Int.ofNat_eq_natCast]; omega)) ?_
  repeat with_reducible first | refine jn_r ?_ | refine brT_r ?_ | refine brF_r ?_ | refine pickT_r ?_ | refine pickF_r ?_ | refine asB_r ?_ | refine asI_r ?_ | refine asBUb_r ?_ | refine asBUs_r ?_
  by_cases c4 : 0 ≤ t
  rotate_left
  · refine fBE_r (ltI_true.2 (by simp only [Int.ofNat_eq_natCast]; omega)) ?_
    repeat with_reducible first | refine jn_r ?_ | refine brT_r ?_ | refine brF_r ?_ | refine pickT_r ?_ | refine pickF_r ?_ | refine asB_r ?_ | refine asI_r ?_ | refine asBUb_r ?_ | refine asBUs_r ?_
    exact hK _
  refine fBE_r (ltI_false.2 (by simp only [Int.ofNat_eq_natCast]; omega)) ?_
  repeat with_reducible first | refine jn_r ?_ | refine brT_r ?_ | refine brF_r ?_ | refine pickT_r ?_ | refine pickF_r ?_ | refine asB_r ?_ | refine asI_r ?_ | refine asBUb_r ?_ | refine asBUs_r ?_
  by_cases c5 : 0 ≤ fuse
  rotate_left
  · refine fBE_r (ltI_true.2 (by simp only [Int.ofNat_eq_natCast]; omega)) ?_
    repeat with_reducible first | refine jn_r ?_ | refine brT_r ?_ | refine brF_r ?_ | refine pickT_r ?_ | refine pickF_r ?_ | refine asB_r ?_ | refine asI_r ?_ | refine asBUb_r ?_ | refine asBUs_r ?_
    exact hK _
  refine fBE_r (ltI_false.2 (by simp only [Int.ofNat_eq_natCast]; omega)) ?_
  repeat with_reducible first | refine jn_r ?_ | refine brT_r ?_ | refine brF_r ?_ | refine pickT_r ?_ | refine pickF_r ?_ | refine asB_r ?_ | refine asI_r ?_ | refine asBUb_r ?_ | refine asBUs_r ?_
  refine p10 hb (by decide) (by decide) fun h1 f1 o1 => ?_
  obtain ⟨g1, hg1⟩ : ∃ g1 : FsG, g1 = ⟨h.next + 2, h.next, h.next + 1, none⟩ := ⟨_, rfl⟩
  rw [← hg1] at f1
  have f1 : FsAt h1 g1 (Fs.new 1048576) := f1
  rw [show h.next + 2 = g1.id by rw [hg1]]
  have i1 := Fs.new_inv 1048576
  obtain ⟨k1, k2, k3, k4, k5, k6⟩ := setup5 c1 named_cur
  have i2 := i1.create (by omega) (by omega) curB
  have i3 := i2.append curB old (by omega)
  have i4 := i3.sync (by omega) curB
  have i5 := i4.syncNames (by omega)
  have q0 := k5.fuse c5
  have i6 := i5.fuse hfu
  have hv1 := hv.only o1
  have hw1 := hw.only o1
  refine fBE_r nz0 ?_
  repeat with_reducible first | refine jn_r ?_ | refine brT_r ?_ | refine brF_r ?_ | refine pickT_r ?_ | refine pickF_r ?_ | refine asB_r ?_ | refine asI_r ?_ | refine asBUb_r ?_ | refine asBUs_r ?_
  rw [str_cur]
  refine p11 f1 (i1.fit.mono (by omega)) (by show (0 + 1) * 72 ≤ _; omega) fun h2 g2 f2 n2 => ?_
  rw [← n2.id, k1]
  repeat with_reducible first | refine jn_r ?_ | refine brT_r ?_ | refine brF_r ?_ | refine pickT_r ?_ | refine pickF_r ?_ | refine asB_r ?_ | refine asI_r ?_ | refine asBUb_r ?_ | refine asBUs_r ?_
  refine fBE_r nz0 ?_
  repeat with_reducible first | refine jn_r ?_ | refine brT_r ?_ | refine brF_r ?_ | refine pickT_r ?_ | refine pickF_r ?_ | refine asB_r ?_ | refine asI_r ?_ | refine asBUb_r ?_ | refine asBUs_r ?_
  refine p16 f2 (hv1.only n2.o) i2.fit (by omega) (Nat.le_trans i2.held.len (by omega)) fun h3 g3 f3 n3 => ?_
  rw [← n3.id, k2]
  repeat with_reducible first | refine jn_r ?_ | refine brT_r ?_ | refine brF_r ?_ | refine pickT_r ?_ | refine pickF_r ?_ | refine asB_r ?_ | refine asI_r ?_ | refine asBUb_r ?_ | refine asBUs_r ?_
  refine fBE_r nz0 ?_
  repeat with_reducible first | refine jn_r ?_ | refine brT_r ?_ | refine brF_r ?_ | refine pickT_r ?_ | refine pickF_r ?_ | refine asB_r ?_ | refine asI_r ?_ | refine asBUb_r ?_ | refine asBUs_r ?_
  refine p14 f3 (i3.fit.mono (by omega)) fun h4 g4 f4 n4 => ?_
  rw [← n4.id, k3]
  repeat with_reducible first | refine jn_r ?_ | refine brT_r ?_ | refine brF_r ?_ | refine pickT_r ?_ | refine pickF_r ?_ | refine asB_r ?_ | refine asI_r ?_ | refine asBUb_r ?_ | refine asBUs_r ?_
  refine fBE_r nz0 ?_
  repeat with_reducible first | refine jn_r ?_ | refine brT_r ?_ | refine brF_r ?_ | refine pickT_r ?_ | refine pickF_r ?_ | refine asB_r ?_ | refine asI_r ?_ | refine asBUb_r ?_ | refine asBUs_r ?_
  refine p12 f4 (i4.fit.mono (by omega)) fun h5 g5 f5 n5 => ?_
  rw [← n5.id, k4]
  repeat with_reducible first | refine jn_r ?_ | refine brT_r ?_ | refine brF_r ?_ | refine pickT_r ?_ | refine pickF_r ?_ | refine asB_r ?_ | refine asI_r ?_ | refine asBUb_r ?_ | refine asBUs_r ?_
  refine fBE_r nz0 ?_
  repeat with_reducible first | refine jn_r ?_ | refine brT_r ?_ | refine brF_r ?_ | refine pickT_r ?_ | refine pickF_r ?_ | refine asB_r ?_ | refine asI_r ?_ | refine asBUb_r ?_ | refine asBUs_r ?_
  refine p13 f5 fun h6 g6 f6 n6 => ?_
  rw [← n6.id, q0.1]
  repeat with_reducible first | refine jn_r ?_ | refine brT_r ?_ | refine brF_r ?_ | refine pickT_r ?_ | refine pickF_r ?_ | refine asB_r ?_ | refine asI_r ?_ | refine asBUb_r ?_ | refine asBUs_r ?_
  refine fBE_r nz0 ?_
  repeat with_reducible first | refine jn_r ?_ | refine brT_r ?_ | refine brF_r ?_ | refine pickT_r ?_ | refine pickF_r ?_ | refine asB_r ?_ | refine asI_r ?_ | refine asBUb_r ?_ | refine asBUs_r ?_
  have q := q0.2
  have hv6 := ((((hv1.only n2.o).only n3.o).only n4.o).only n5.o).only n6.o
  have hw6 := ((((hw1.only n2.o).only n3.o).only n4.o).only n5.o).only n6.o
  clear k1 k2 k3 k4 k5 k6 q0 f1 f2 f3 f4 f5
  have i6 : Am.Inv _ (0 + 72 + 73 * old.length + 1 + 1) (0 + 1) := i6
  generalize ((((((Fs.new 1048576).create curB).2.append curB old).2.sync curB).2.syncNames).2.fuse fuse).2 = fs at q i6 f6
  clear i1 i2 i3 i4 i5
  obtain ⟨N, hN, i⟩ : ∃ N, N ≤ 30000 ∧ Am.Inv fs N 1 := ⟨_, by omega, i6⟩
  have tl : ∀ {h' : H} {g' : FsG} {fs' : Fs} {b : Bool}, FsAt h' g' fs' → Am.Inv fs' 100000 10 → SlB h' v old → SlB h' w now → Q5 old now b fs' → tail5 K (.ptr g'.id 0) v w k t b h' := fun f i hv hw q => tail5_ok f i (by omega) (by omega) c3 c4 hv hw c1 c2 q hK
  rw [str_new]
  have j1 := i.create (by omega) (by omega) newB
  refine p11 f6 (i.fit.mono (by omega)) (by rw [q.wait]; show (0 + 1) * 72 ≤ _; omega) fun h7 g7 f7 n7 => ?_
  rw [← n7.id]
  have hv7 := hv6.only n7.o
  have hw7 := hw6.only n7.o
  rcases step5a (now := now) q i (by omega) (by omega) with ⟨a1, a2, a3, a4, a5⟩ | ⟨a1, a2⟩
  rotate_left
  · refine fBE_r (eqI_false.2 a1) ?_
    repeat with_reducible first | refine jn_r ?_ | refine brT_r ?_ | refine brF_r ?_ | refine pickT_r ?_ | refine pickF_r ?_ | refine asB_r ?_ | refine asI_r ?_ | refine asBUb_r ?_ | refine asBUs_r ?_
    exact tl f7 (j1.mono (by omega) (by omega)) hv7 hw7 a2
  generalize fs.create newB = r1 at *
  refine fBE_r (eqI_true.2 a1) ?_
  repeat with_reducible first | refine jn_r ?_ | refine brT_r ?_ | refine brF_r ?_ | refine pickT_r ?_ | refine pickF_r ?_ | refine asB_r ?_ | refine asI_r ?_ | refine asBUb_r ?_ | refine asBUs_r ?_
  have j2 := j1.append newB now (by omega)
  refine p16 f7 hw7 j1.fit (by omega) (Nat.le_trans j1.held.len (by omega)) fun h8 g8 f8 n8 => ?_
  rw [← n8.id]
  have hv8 := hv7.only n8.o
  have hw8 := hw7.only n8.o
  have sb := step5b j1 c2 c1 (by omega) (by have : (1 + 1) * (N + 72) ≤ 2 * 30072 := by omega
                                            omega) a2 q.names q.at0 q.at1 a3 a4 a5
  rcases sb with ⟨b1, b2, ⟨ws, b3, b4, b5⟩, b6⟩ | ⟨b1, b2⟩
  rotate_left
  · repeat with_reducible first | refine jn_r ?_ | refine brT_r ?_ | refine brF_r ?_ | refine pickT_r ?_ | refine pickF_r ?_ | refine asB_r ?_ | refine asI_r ?_ | refine asBUb_r ?_ | refine asBUs_r ?_
    refine fBE_r (eqI_false.2 b1) ?_
    repeat with_reducible first | refine jn_r ?_ | refine brT_r ?_ | refine brF_r ?_ | refine pickT_r ?_ | refine pickF_r ?_ | refine asB_r ?_ | refine asI_r ?_ | refine asBUb_r ?_ | refine asBUs_r ?_
    exact tl f8 (j2.mono (by omega) (by omega)) hv8 hw8 b2
  generalize r1.2.append newB now = r2 at *
  repeat with_reducible first | refine jn_r ?_ | refine brT_r ?_ | refine brF_r ?_ | refine pickT_r ?_ | refine pickF_r ?_ | refine asB_r ?_ | refine asI_r ?_ | refine asBUb_r ?_ | refine asBUs_r ?_
  refine fBE_r (eqI_true.2 b1) ?_
  repeat with_reducible first | refine jn_r ?_ | refine brT_r ?_ | refine brF_r ?_ | refine pickT_r ?_ | refine pickF_r ?_ | refine asB_r ?_ | refine asI_r ?_ | refine asBUb_r ?_ | refine asBUs_r ?_
  have j3 := j2.sync (by omega) newB
  refine p14 f8 (j2.fit.mono (by omega)) fun h9 g9 f9 n9 => ?_
  rw [← n9.id]
  have hv9 := hv8.only n9.o
  have hw9 := hw8.only n9.o
  rcases step5c (old := old) (now := now) j2 (by omega) b2 q.names q.at0 q.at1 b3 b4 b5 b6 with ⟨d1, d2, d3, d4, d5, d6⟩ | ⟨d1, d2⟩
  rotate_left
  · repeat with_reducible first | refine jn_r ?_ | refine brT_r ?_ | refine brF_r ?_ | refine pickT_r ?_ | refine pickF_r ?_ | refine asB_r ?_ | refine asI_r ?_ | refine asBUb_r ?_ | refine asBUs_r ?_
    refine fBE_r (eqI_false.2 d1) ?_
    repeat with_reducible first | refine jn_r ?_ | refine brT_r ?_ | refine brF_r ?_ | refine pickT_r ?_ | refine pickF_r ?_ | refine asB_r ?_ | refine asI_r ?_ | refine asBUb_r ?_ | refine asBUs_r ?_
    exact tl f9 (j3.mono (by omega) (by omega)) hv9 hw9 d2
  generalize r2.2.sync newB = r3 at *
  repeat with_reducible first | refine jn_r ?_ | refine brT_r ?_ | refine brF_r ?_ | refine pickT_r ?_ | refine pickF_r ?_ | refine asB_r ?_ | refine asI_r ?_ | refine asBUb_r ?_ | refine asBUs_r ?_
  refine fBE_r (eqI_true.2 d1) ?_
  repeat with_reducible first | refine jn_r ?_ | refine brT_r ?_ | refine brF_r ?_ | refine pickT_r ?_ | refine pickF_r ?_ | refine asB_r ?_ | refine asI_r ?_ | refine asBUb_r ?_ | refine asBUs_r ?_
  have j4 := j3.rename (by omega) newB curB
  refine p24 f9 (j3.fit.mono (by omega)) (by rw [d5]; show (1 + 1) * 72 ≤ _; omega) fun h10 g10 f10 n10 => ?_
  rw [← n10.id]
  have hv10 := hv9.only n10.o
  have hw10 := hw9.only n10.o
  rcases step5d (old := old) (now := now) j3 (by omega) d2 d3 d4 d5 d6 with ⟨e1, e2, e3, e4⟩ | ⟨e1, e2⟩
  rotate_left
  · repeat with_reducible first | refine jn_r ?_ | refine brT_r ?_ | refine brF_r ?_ | refine pickT_r ?_ | refine pickF_r ?_ | refine asB_r ?_ | refine asI_r ?_ | refine asBUb_r ?_ | refine asBUs_r ?_
    refine fBE_r (eqI_false.2 e1) ?_
    repeat with_reducible first | refine jn_r ?_ | refine brT_r ?_ | refine brF_r ?_ | refine pickT_r ?_ | refine pickF_r ?_ | refine asB_r ?_ | refine asI_r ?_ | refine asBUb_r ?_ | refine asBUs_r ?_
    exact tl f10 (j4.mono (by omega) (by omega)) hv10 hw10 e2
  have e5 := step5e (old := old) (now := now) (fs := (r3.2.rename newB curB).2) j4 (by omega) (by rw [e2]; exact d2) (by rw [e2]; exact d3) (by rw [e2]; exact d4) e3 e4
  generalize r3.2.rename newB curB = r4 at *
  repeat with_reducible first | refine jn_r ?_ | refine brT_r ?_ | refine brF_r ?_ | refine pickT_r ?_ | refine pickF_r ?_ | refine asB_r ?_ | refine asI_r ?_ | refine asBUb_r ?_ | refine asBUs_r ?_
  refine fBE_r (eqI_true.2 e1) ?_
  repeat with_reducible first | refine jn_r ?_ | refine brT_r ?_ | refine brF_r ?_ | refine pickT_r ?_ | refine pickF_r ?_ | refine asB_r ?_ | refine asI_r ?_ | refine asBUb_r ?_ | refine asBUs_r ?_
  have j5 := j4.syncNames (by omega)
  refine p12 f10 (j4.fit.mono (by omega)) fun h11 g11 f11 n11 => ?_
  rw [← n11.id]
  have hv11 := hv10.only n11.o
  have hw11 := hw10.only n11.o
  repeat with_reducible first | refine jn_r ?_ | refine brT_r ?_ | refine brF_r ?_ | refine pickT_r ?_ | refine pickF_r ?_ | refine asB_r ?_ | refine asI_r ?_ | refine asBUb_r ?_ | refine asBUs_r ?_
  refine fB_r ?_
  repeat with_reducible first | refine jn_r ?_ | refine brT_r ?_ | refine brF_r ?_ | refine pickT_r ?_ | refine pickF_r ?_ | refine asB_r ?_ | refine asI_r ?_ | refine asBUb_r ?_ | refine asBUs_r ?_
  rw [eqI_dec]
  exact tl f11 (j5.mono (by omega) (by omega)) hv11 hw11 e5
end Go.Proofs.Ytiejkbmobmgdkaa
