/- The law VfsSynced, walked: what was synced survives every crash. No condition. -/
import Derived.Test.YtiejkbmobmgdkaaPxE
import Derived.Test.YtiejkbmobmgdkaaVxS
namespace Go.Am
open Go
set_option linter.all false
theorem lv_r {G : Gam} {h : H} {k : H → Prop} (q : k h) : leaveK G [] h k := q
/-- bytes in a row that came in -/
structure Pcs (h : H) (v : AV) (L : List (AV × List UInt8)) : Prop where
  row : (v = .nils ∧ L = []) ∨ ∃ id tt cap ex, v = .slice id 0 L.length cap 1 ex ∧ id < h.base ∧ h.get id = .cells true tt (L.map (·.1))
  els : ∀ p ∈ L, SlB h p.1 p.2
theorem Pcs.only {Q : Nat → Prop} {h h' : H} {v : AV} {L : List (AV × List UInt8)} (p : Pcs h v L) (o : Only Q h h') (hq : ∀ i, i < h.base → ¬ Q i) : Pcs h' v L := by
  refine ⟨?_, fun q hq => (p.els q hq).only o⟩
  rcases p.row with c | ⟨id, tt, cap, ex, h1, h2, h3⟩
  · exact .inl c
  · exact .inr ⟨id, tt, cap, ex, h1, by rw [o.base]; exact h2, o.at h3 rfl (hq id h2)⟩
theorem Pcs.len {h : H} {v : AV} {L : List (AV × List UInt8)} (p : Pcs h v L) (k : Nat → Prop) : lenK v k = k L.length := by
  rcases p.row with ⟨rfl, rfl⟩ | ⟨id, tt, cap, ex, rfl, h2, h3⟩ <;> rfl
theorem Pcs.read {h : H} {v : AV} {L : List (AV × List UInt8)} (p : Pcs h v L) {i : Nat} (hi : i < L.length) {kk : IntKind} {k : AV → Prop}
    (hk : ∀ id tt, h.get id = .cells true tt (L.map (·.1)) → id < h.base → k (.ptr id i)) : ixK 1 v (.int kk (Int.ofNat i)) k := by
  rcases p.row with ⟨rfl, rfl⟩ | ⟨id, tt, cap, ex, rfl, h2, h3⟩
  · simp at hi
  · rw [ixK1 hi]; exact hk id tt h3 h2
theorem Own.base {h : H} {g : FsG} {fs : Fs} (f : FsAt h g fs) {i : Nat} (o : Own g i) : h.base ≤ i := by
  obtain ⟨w, e1, e2⟩ := f.obj
  rcases o with rfl | rfl | rfl | o
  · exact f.bs
  · exact f.tree.bf
  · exact f.tree.bn
  · rcases e2 with ⟨_, _, h1⟩ | ⟨_, id, mv, cs, h1, h2, h3, h4, h5⟩
    · rw [h1] at o; cases o
    · rw [h1] at o; injection o with o; subst o; exact h3
theorem Own.low {h : H} {g : FsG} {fs : Fs} (f : FsAt h g fs) (i : Nat) (hi : i < h.base) : ¬ Own g i := fun o => by have := Own.base f o; omega
end Go.Am
namespace Go.Proofs.Ytiejkbmobmgdkaa
open Go Go.Am
set_option linter.all false
set_option maxRecDepth 100000
theorem nzb {x : Int} (h : x ≠ 0) : Bool.not (eqI x (Int.ofNat 0)) = true := by rw [show eqI x (Int.ofNat 0) = false from eqI_false.2 h]; rfl
theorem str_log : (⟨3, 7106407⟩ : Str) = Str.of logB := by kernel_rfl
noncomputable def tail3 (k : Bool → H → Prop) (v75 : AV × AV × AV × AV × AV × Unit) (d76 : List Dfr) (h77 : H) : Prop :=
asI .i64 v75.1 fun x80 =>
asI .i64 v75.2.1 fun x81 =>
s17' v75.2.2.1 x80 x81 h77 fun x82 h79 =>
fB (Bool.not (eqI x82 (Int.ofNat 0))) fun b83 =>
J0.jn (fun v84 h85 =>
J0.jn (fun v87 h88 =>
J0.jn (fun v92 h93 =>
pickB (AV.bool b83) (AV.bool true) v92 fun b97 =>
J0.jn (fun v98 h99 =>
J0.jn (fun v101 h102 =>
J0.jn (fun v106 h107 =>
pickB (AV.bool b97) (AV.bool true) v106 fun b111 =>
br b111 (
leaveK (gam J0 [(9, w9 pLives), (10, w10 s10), (11, w11 s11), (12, w12 s12), (13, w13 s13), (14, w14 s14), (15, w15 s15), (16, w16 s16), (17, w17 s17'), (18, w18 s18), (19, w19 s19), (20, w20 s20), (21, w21 s21)]) d76 h107 fun h112 =>
k false h112) (
s20 v75.2.2.1 (Str.of logB) h107 fun v114 x115 h113 =>
fB (Bool.not (eqI x115 (Int.ofNat 0))) fun b116 =>
J0.jn (fun v117 h118 =>
J0.jn (fun v120 h121 =>
J0.jn (fun v124 h125 =>
J0.jn (fun v127 h128 =>
J0.jn (fun v131 h132 =>
pickB (AV.bool b116) (AV.bool true) v131 fun b137 =>
J0.jn (fun v138 h139 =>
J0.jn (fun v141 h142 =>
J0.jn (fun v145 h146 =>
J0.jn (fun v148 h149 =>
J0.jn (fun v152 h153 =>
pickB (AV.bool b137) (AV.bool true) v152 fun b158 =>
br b158 (
leaveK (gam J0 [(9, w9 pLives), (10, w10 s10), (11, w11 s11), (12, w12 s12), (13, w13 s13), (14, w14 s14), (15, w15 s15), (16, w16 s16), (17, w17 s17'), (18, w18 s18), (19, w19 s19), (20, w20 s20), (21, w21 s21)]) d76 h153 fun h159 =>
k false h159) (
lenK v114 fun x160 =>
slK 1 v75.2.2.2.1 none (some (AV.int .i64 (Int.ofNat x160))) fun v161 =>
s21 v114 v161 h153 fun b163 h162 =>
leaveK (gam J0 [(9, w9 pLives), (10, w10 s10), (11, w11 s11), (12, w12 s12), (13, w13 s13), (14, w14 s14), (15, w15 s15), (16, w16 s16), (17, w17 s17'), (18, w18 s18), (19, w19 s19), (20, w20 s20), (21, w21 s21)]) d76 h162 fun h164 =>
k b163 h164)) fun j154 =>
br b137 (
j154 skipV h149) (
asI .i64 v141 fun x155 =>
asI .i64 v148 fun x156 =>
fB (ltI x155 x156) fun b157 =>
j154 (AV.bool b157) h149)) fun j150 =>
br b137 (
j150 skipV h146) (
lenK v145 fun x151 =>
j150 (AV.int .i64 (Int.ofNat x151)) h146)) fun j147 =>
br b137 (
j147 skipV h142) (
j147 v75.2.2.2.2.1 h142)) fun j143 =>
br b137 (
j143 skipV h139) (
lenK v138 fun x144 =>
j143 (AV.int .i64 (Int.ofNat x144)) h139)) fun j140 =>
br b137 (
j140 skipV h132) (
j140 v114 h132)) fun j133 =>
br b116 (
j133 skipV h128) (
asI .i64 v120 fun x134 =>
asI .i64 v127 fun x135 =>
fB (ltI x135 x134) fun b136 =>
j133 (AV.bool b136) h128)) fun j129 =>
br b116 (
j129 skipV h125) (
lenK v124 fun x130 =>
j129 (AV.int .i64 (Int.ofNat x130)) h125)) fun j126 =>
br b116 (
j126 skipV h121) (
j126 v75.2.2.2.1 h121)) fun j122 =>
br b116 (
j122 skipV h118) (
lenK v117 fun x123 =>
j122 (AV.int .i64 (Int.ofNat x123)) h118)) fun j119 =>
br b116 (
j119 skipV h113) (
j119 v114 h113))) fun j108 =>
br b97 (
j108 skipV h102) (
asI .i64 v101 fun x109 =>
fB (Bool.not (eqI x109 (Int.ofNat 0))) fun b110 =>
j108 (AV.bool b110) h102)) fun j103 =>
br b97 (
j103 skipV h99) (
s19 v98 h99 fun x105 h104 =>
j103 (AV.int .i64 x105) h104)) fun j100 =>
br b97 (
j100 skipV h93) (
j100 v75.2.2.1 h93)) fun j94 =>
br b83 (
j94 skipV h88) (
asB v87 fun b95 =>
fB (Bool.not b95) fun b96 =>
j94 (AV.bool b96) h88)) fun j89 =>
br b83 (
j89 skipV h85) (
s18 v84 h85 fun b91 h90 =>
j89 (AV.bool b91) h90)) fun j86 =>
br b83 (
j86 skipV h79) (
j86 v75.2.2.1 h79)
noncomputable def rest3 (k : Bool → H → Prop) (a0 : AV) (a2 a3 : Int) (v25 : AV) (h70 : H) : Prop :=
J0.jd (α := AV × AV × AV × AV × AV × Unit) (fun v75 d76 h77 =>
tail3 k v75 d76 h77) fun j78 =>
J0.lp (α := AV × AV × AV × AV × AV × AV × AV × Unit) (fun r168 v165 d166 h167 =>
lenK v165.1 fun x169 =>
asI .i64 v165.2.2.2.2.2.2.1 fun x170 =>
fB (ltI x170 (Int.ofNat x169)) fun b171 =>
br b171 (
J0.jd (α := AV × AV × AV × AV × AV × AV × AV × Unit) (fun v172 d173 h174 =>
asI .i64 v172.2.2.2.2.2.2.1 fun x176 =>
fI (wrapF .i64 (Int.add x176 (Int.ofNat 1))) fun x177 =>
r168 (v172.1, v172.2.1, v172.2.2.1, v172.2.2.2.1, v172.2.2.2.2.1, v172.2.2.2.2.2.1, (AV.int .i64 x177), ()) d173 h174) fun j175 =>
ixK 1 v165.1 v165.2.2.2.2.2.2.1 fun p178 =>
ldV p178 h167 fun v179 =>
lenK v179 fun x180 =>
fB (ltI (Int.ofNat 400) (Int.ofNat x180)) fun b181 =>
br b181 (
leaveK (gam J0 [(9, w9 pLives), (10, w10 s10), (11, w11 s11), (12, w12 s12), (13, w13 s13), (14, w14 s14), (15, w15 s15), (16, w16 s16), (17, w17 s17'), (18, w18 s18), (19, w19 s19), (20, w20 s20), (21, w21 s21)]) d166 h167 fun h182 =>
k true h182) (
ixK 1 v165.1 v165.2.2.2.2.2.2.1 fun p183 =>
ldV p183 h167 fun v184 =>
lenK v184 fun x185 =>
fB (eqI (Int.ofNat x185) (Int.ofNat 0)) fun b186 =>
br b186 (
s14 v165.2.2.2.1 (Str.of logB) h167 fun x188 h187 =>
fB (Bool.not (eqI x188 (Int.ofNat 0))) fun b189 =>
br b189 (
j78 (v165.2.1, v165.2.2.1, v165.2.2.2.1, v165.2.2.2.2.1, v165.2.2.2.2.2.1, ()) d166 h187) (
s15 v165.2.2.2.2.1 h187 fun v191 h190 =>
j175 (v165.1, v165.2.1, v165.2.2.1, v165.2.2.2.1, v165.2.2.2.2.1, v191, v165.2.2.2.2.2.2.1, ()) d166 h190)) (
ixK 1 v165.1 v165.2.2.2.2.2.2.1 fun p192 =>
ldV p192 h167 fun v193 =>
s15 v165.2.2.2.2.1 h167 fun v195 h194 =>
ck (readsSo (aLoad1 p192 h194) v193) (
apB (.slice 5) 5 v195 v193 h194 fun v196 h197 =>
ixK 1 v165.1 v165.2.2.2.2.2.2.1 fun p198 =>
ldV p198 h197 fun v199 =>
s16 v165.2.2.2.1 (Str.of logB) v199 h197 fun x201 h200 =>
fB (Bool.not (eqI x201 (Int.ofNat 0))) fun b202 =>
br b202 (
j78 (v165.2.1, v165.2.2.1, v165.2.2.2.1, v196, v165.2.2.2.2.2.1, ()) d166 h200) (
j175 (v165.1, v165.2.1, v165.2.2.1, v165.2.2.2.1, v196, v165.2.2.2.2.2.1, v165.2.2.2.2.2.2.1, ()) d166 h200))))) (
j78 (v165.2.1, v165.2.2.1, v165.2.2.2.1, v165.2.2.2.2.1, v165.2.2.2.2.2.1, ()) d166 h167)) (a0, (AV.int .i64 a2), (AV.int .i64 a3), v25, AV.nils, AV.nils, (AV.int .i64 (Int.ofNat 0)), ()) [] h70
/-- a round of VfsSynced -/
structure R3 (a0 : AV) (L : List (AV × List UInt8)) (kk t : Int) (P : Nat) (m : Nat) (v : AV × AV × AV × AV × AV × AV × AV × Unit) (d : List Dfr) (h : H) (i : Nat) (g : FsG) (fs : Fs) (all sv : List UInt8) (av svv : AV) (N : Nat) : Prop where
  m : m = L.length - i
  le : i ≤ L.length
  v : v = (a0, .int .i64 kk, .int .i64 t, .ptr P 0, av, svv, .int .i64 (Int.ofNat i), ())
  d : d = []
  f : FsAt h g fs
  id : g.id = P
  o : SynOn all sv fs
  inv : Am.Inv fs N 1
  N : N ≤ 1000 + 30000 * i
  la : all.length ≤ 400 * i
  av : SlB h av all
  svv : SlB h svv sv
  p : Pcs h a0 L
def P3 (kk t : Int) (v : AV × AV × AV × AV × AV × Unit) (d : List Dfr) (h : H) : Prop := ∃ (g : FsG) (fs : Fs) (all sv : List UInt8) (av svv : AV) (N : Nat),
  v = (.int .i64 kk, .int .i64 t, .ptr g.id 0, av, svv, ()) ∧ d = [] ∧ FsAt h g fs ∧ Syn all sv fs ∧ Am.Inv fs N 1 ∧ N ≤ 5000000 ∧ SlB h av all ∧ all.length ≤ 1000000 ∧ SlB h svv sv
theorem tail3_ok {kk t : Int} {v : AV × AV × AV × AV × AV × Unit} {d : List Dfr} {h : H} {K : Bool → H → Prop} (q : P3 kk t v d h) (hk : 0 ≤ kk) (ht : 0 ≤ t) (hK : ∀ h', K true h') : tail3 K v d h := by
  have hm : mostRoom = 140737488355328 := rfl
  obtain ⟨g, fs, all, sv, av, svv, N, rfl, rfl, f, o, i, hN, hav, hal, hsv⟩ := q
  unfold tail3
  dsimp only
  repeat with_reducible first | refine jn_r ?_ | refine brT_r ?_ | refine brF_r ?_ | refine pickT_r ?_ | refine pickF_r ?_ | refine asB_r ?_ | refine asI_r ?_ | refine asBUb_r ?_ | refine asBUs_r ?_ | refine lv_r ?_ | refine jd_r ?_
  refine p17 f i (by omega) (by omega) fun h1 g1 f1 n1 => ?_
  obtain ⟨c1, c2, c3, c4, _⟩ := crash_is i hk ht
  have i1 := i.crash kk t
  obtain ⟨r, e1, e2, e3⟩ := o.crash i hk ht
  have hrl := e2.length_le
  rw [c1]
  refine fBE_r nz0 ?_
  rw [← n1.id]
  repeat with_reducible first | refine jn_r ?_ | refine brT_r ?_ | refine brF_r ?_ | refine pickT_r ?_ | refine pickF_r ?_ | refine asB_r ?_ | refine asI_r ?_ | refine asBUb_r ?_ | refine asBUs_r ?_ | refine lv_r ?_ | refine jd_r ?_
  refine p18 f1 ?_
  rw [c2]
  repeat with_reducible first | refine jn_r ?_ | refine brT_r ?_ | refine brF_r ?_ | refine pickT_r ?_ | refine pickF_r ?_ | refine asB_r ?_ | refine asI_r ?_ | refine asBUb_r ?_ | refine asBUs_r ?_ | refine lv_r ?_ | refine jd_r ?_
  refine fBE_r (show Bool.not (Bool.not false) = false from rfl) ?_
  repeat with_reducible first | refine jn_r ?_ | refine brT_r ?_ | refine brF_r ?_ | refine pickT_r ?_ | refine pickF_r ?_ | refine asB_r ?_ | refine asI_r ?_ | refine asBUb_r ?_ | refine asBUs_r ?_ | refine lv_r ?_ | refine jd_r ?_
  refine p19 f1 ?_
  rw [c4]
  repeat with_reducible first | refine jn_r ?_ | refine brT_r ?_ | refine brF_r ?_ | refine pickT_r ?_ | refine pickF_r ?_ | refine asB_r ?_ | refine asI_r ?_ | refine asBUb_r ?_ | refine asBUs_r ?_ | refine lv_r ?_ | refine jd_r ?_
  refine fBE_r nz0 ?_
  repeat with_reducible first | refine jn_r ?_ | refine brT_r ?_ | refine brF_r ?_ | refine pickT_r ?_ | refine pickF_r ?_ | refine asB_r ?_ | refine asI_r ?_ | refine asBUb_r ?_ | refine asBUs_r ?_ | refine lv_r ?_ | refine jd_r ?_
  refine p20 f1 (i1.fit.mono (by omega)) fun v' h2 f2 o2 hv' => ?_
  rw [e1] at hv' ⊢
  have hv' : SlB h2 v' r := hv'
  refine fBE_r nz0 ?_
  have ha2 := (hav.only n1.o).only o2
  have hs2 := (hsv.only n1.o).only o2
  repeat with_reducible first | refine jn_r ?_ | refine brT_r ?_ | refine brF_r ?_ | refine pickT_r ?_ | refine pickF_r ?_ | refine asB_r ?_ | refine asI_r ?_ | refine asBUb_r ?_ | refine asBUs_r ?_ | refine lv_r ?_ | refine jd_r ?_
  refine (hv'.len _).mpr ?_
  repeat with_reducible first | refine jn_r ?_ | refine brT_r ?_ | refine brF_r ?_ | refine pickT_r ?_ | refine pickF_r ?_ | refine asB_r ?_ | refine asI_r ?_ | refine asBUb_r ?_ | refine asBUs_r ?_ | refine lv_r ?_ | refine jd_r ?_
  refine (ha2.len _).mpr ?_
  repeat with_reducible first | refine jn_r ?_ | refine brT_r ?_ | refine brF_r ?_ | refine pickT_r ?_ | refine pickF_r ?_ | refine asB_r ?_ | refine asI_r ?_ | refine asBUb_r ?_ | refine asBUs_r ?_ | refine lv_r ?_ | refine jd_r ?_
  refine fBE_r (ltI_nat'.2 hrl) ?_
  repeat with_reducible first | refine jn_r ?_ | refine brT_r ?_ | refine brF_r ?_ | refine pickT_r ?_ | refine pickF_r ?_ | refine asB_r ?_ | refine asI_r ?_ | refine asBUb_r ?_ | refine asBUs_r ?_ | refine lv_r ?_ | refine jd_r ?_
  refine (hv'.len _).mpr ?_
  repeat with_reducible first | refine jn_r ?_ | refine brT_r ?_ | refine brF_r ?_ | refine pickT_r ?_ | refine pickF_r ?_ | refine asB_r ?_ | refine asI_r ?_ | refine asBUb_r ?_ | refine asBUs_r ?_ | refine lv_r ?_ | refine jd_r ?_
  refine (hs2.len _).mpr ?_
  repeat with_reducible first | refine jn_r ?_ | refine brT_r ?_ | refine brF_r ?_ | refine pickT_r ?_ | refine pickF_r ?_ | refine asB_r ?_ | refine asI_r ?_ | refine asBUb_r ?_ | refine asBUs_r ?_ | refine lv_r ?_ | refine jd_r ?_
  refine fBE_r (ltI_nat'.2 e3) ?_
  repeat with_reducible first | refine jn_r ?_ | refine brT_r ?_ | refine brF_r ?_ | refine pickT_r ?_ | refine pickF_r ?_ | refine asB_r ?_ | refine asI_r ?_ | refine asBUb_r ?_ | refine asBUs_r ?_ | refine lv_r ?_ | refine jd_r ?_
  refine (hv'.len _).mpr ?_
  refine SlB.first ha2 hrl fun v3 hv3 => ?_
  refine p21 hv' hv3 (by omega) ?_
  rw [decide_eq_true (List.prefix_iff_eq_take.1 e2)]
  exact hK _
theorem rest3_ok {h : H} {g : FsG} {fs : Fs} {a0 : AV} {L : List (AV × List UInt8)} {k t : Int} {K : Bool → H → Prop} (f : FsAt h g fs) (o : SynOn [] [] fs) (i : Am.Inv fs 1000 1) (hp : Pcs h a0 L) (hl : L.length ≤ 100) (hk : 0 ≤ k) (ht : 0 ≤ t) (hK : ∀ h', K true h') : rest3 K a0 k t (.ptr g.id 0) h := by
  have hm : mostRoom = 140737488355328 := rfl
  unfold rest3
  refine jd_intro (P3 k t) (fun j' hj => ?_) fun v d h' q => tail3_ok q hk ht hK
  refine lp_rule (fun m v d h' => ∃ i g' fs all sv av svv N, R3 a0 L k t g.id m v d h' i g' fs all sv av svv N) (fun m self v d hc inv next => ?_) (n := L.length) (by show _ < 4611686018427387904; omega) ⟨0, g, fs, [], [], .nils, .nils, 1000, rfl, Nat.zero_le _, rfl, rfl, f, rfl, o, i, by omega, Nat.zero_le _, SlB.nil _, SlB.nil _, hp⟩
  obtain ⟨j, g', fs', all, sv, av, svv, N, hm', hle, rfl, rfl, f', hid, o', i', hN, hla, hav, hsv, hp'⟩ := inv
  dsimp only
  refine (hp'.len _).mpr ?_
  rw [← hid]
  repeat with_reducible first | refine jn_r ?_ | refine brT_r ?_ | refine brF_r ?_ | refine pickT_r ?_ | refine pickF_r ?_ | refine asB_r ?_ | refine asI_r ?_ | refine asBUb_r ?_ | refine asBUs_r ?_ | refine lv_r ?_ | refine jd_r ?_
  by_cases hj2 : j < L.length
  rotate_left
  · refine fBE_r (ltI_nat'.2 (Nat.not_lt.1 hj2)) ?_
    repeat with_reducible first | refine jn_r ?_ | refine brT_r ?_ | refine brF_r ?_ | refine pickT_r ?_ | refine pickF_r ?_ | refine asB_r ?_ | refine asI_r ?_ | refine asBUb_r ?_ | refine asBUs_r ?_ | refine lv_r ?_ | refine jd_r ?_
    exact hj _ _ _ ⟨g', fs', all, sv, av, svv, N, rfl, rfl, f', o'.syn, i', by omega, hav, by omega, hsv⟩
  refine fBE_r (ltI_nat.2 hj2) ?_
  repeat with_reducible first | refine jn_r ?_ | refine brT_r ?_ | refine brF_r ?_ | refine pickT_r ?_ | refine pickF_r ?_ | refine asB_r ?_ | refine asI_r ?_ | refine asBUb_r ?_ | refine asBUs_r ?_ | refine lv_r ?_ | refine jd_r ?_
  have hel := hp'.els L[j] (List.getElem_mem hj2)
  have hlg : lgetO (L.map (·.1)) j = some L[j].1 := lgetO_map _ hj2
  refine hp'.read hj2 fun id tt hg hidb => ?_
  rw [ldV_at hg hlg]
  refine (hel.len _).mpr ?_
  by_cases c1 : L[j].2.length ≤ 400
  rotate_left
  · refine fBE_r (ltI_nat.2 (show 400 < L[j].2.length by omega)) ?_
    repeat with_reducible first | refine jn_r ?_ | refine brT_r ?_ | refine brF_r ?_ | refine pickT_r ?_ | refine pickF_r ?_ | refine asB_r ?_ | refine asI_r ?_ | refine asBUb_r ?_ | refine asBUs_r ?_ | refine lv_r ?_ | refine jd_r ?_
    exact hK _
  refine fBE_r (ltI_nat'.2 c1) ?_
  repeat with_reducible first | refine jn_r ?_ | refine brT_r ?_ | refine brF_r ?_ | refine pickT_r ?_ | refine pickF_r ?_ | refine asB_r ?_ | refine asI_r ?_ | refine asBUb_r ?_ | refine asBUs_r ?_ | refine lv_r ?_ | refine jd_r ?_
  refine hp'.read hj2 fun id2 tt2 hg2 hidb2 => ?_
  rw [ldV_at hg2 hlg]
  refine (hel.len _).mpr ?_
  by_cases c2 : L[j].2 = []
  · -- a sync
    refine fBE_r (eqI_true.2 (by rw [c2]; rfl)) ?_
    repeat with_reducible first | refine jn_r ?_ | refine brT_r ?_ | refine brF_r ?_ | refine pickT_r ?_ | refine pickF_r ?_ | refine asB_r ?_ | refine asI_r ?_ | refine asBUb_r ?_ | refine asBUs_r ?_ | refine lv_r ?_ | refine jd_r ?_
    refine p14 f' (i'.fit.mono (by omega)) fun h2 g2 f2 n2 => ?_
    have hid2 := n2.id
    have i2 := i'.sync (by omega) logB
    have hav2 := hav.only n2.o
    have hsv2 := hsv.only n2.o
    have hp2 := hp'.only n2.o (Own.low f')
    rcases o'.sync i' (by omega) with ⟨d1, d2⟩ | ⟨d1, d2⟩
    · rw [d1]
      refine fBE_r nz0 ?_
      repeat with_reducible first | refine jn_r ?_ | refine brT_r ?_ | refine brF_r ?_ | refine pickT_r ?_ | refine pickF_r ?_ | refine asB_r ?_ | refine asI_r ?_ | refine asBUb_r ?_ | refine asBUs_r ?_ | refine lv_r ?_ | refine jd_r ?_
      refine p15 hav2 (by have := f2.wf; exact this) (by omega) fun v3 h3 hv3 r3 o3 => ?_
      repeat with_reducible first | refine jn_r ?_ | refine brT_r ?_ | refine brF_r ?_ | refine pickT_r ?_ | refine pickF_r ?_ | refine asB_r ?_ | refine asI_r ?_ | refine asBUb_r ?_ | refine asBUs_r ?_ | refine lv_r ?_ | refine jd_r ?_
      rw [inc_nat (by omega)]
      refine fI_r ?_
      refine next (L.length - (j + 1)) _ _ _ (by omega) ⟨j + 1, g2, _, all, all, av, v3, N + 1, rfl, hj2, by rw [hid], rfl, f2.only o3 (fun _ _ z => z), hid2.trans hid, d2, i2, by omega, by omega, hav2.only o3, hv3, hp2.only o3 fun _ _ z => z⟩
    · refine fBE_r (nzb d1) ?_
      repeat with_reducible first | refine jn_r ?_ | refine brT_r ?_ | refine brF_r ?_ | refine pickT_r ?_ | refine pickF_r ?_ | refine asB_r ?_ | refine asI_r ?_ | refine asBUb_r ?_ | refine asBUs_r ?_ | refine lv_r ?_ | refine jd_r ?_
      rw [← hid2]
      exact hj _ _ _ ⟨g2, _, all, sv, av, svv, N + 1, rfl, rfl, f2, d2, i2, by omega, hav2, by omega, hsv2⟩
  · -- a piece
    have hne : L[j].2.length ≠ 0 := fun e => c2 (List.length_eq_zero_iff.1 e)
    refine fBE_r (eqI_false.2 (by simp only [Int.ofNat_eq_natCast]; omega)) ?_
    repeat with_reducible first | refine jn_r ?_ | refine brT_r ?_ | refine brF_r ?_ | refine pickT_r ?_ | refine pickF_r ?_ | refine asB_r ?_ | refine asI_r ?_ | refine asBUb_r ?_ | refine asBUs_r ?_ | refine lv_r ?_ | refine jd_r ?_
    refine hp'.read hj2 fun id3 tt3 hg3 hidb3 => ?_
    rw [ldV_at hg3 hlg]
    have hb' := f'.wf
    refine p15 hav hb' (by omega) fun v3 h3 hv3 r3 o3 => ?_
    refine ck_intro (reads_self ((aLoad1_at (o3.at hg3 rfl fun z => z)).trans hlg) hel.self) ?_
    refine apB_row r3 (by rw [o3.base]; exact hb') o3.next (fun F => (hel.only o3).src 5 F) (by omega) fun v4 h4 r4 lo => ?_
    have o4 : Only noL hc h4 := o3.low lo
    have f4 := f'.only o4 fun _ _ z => z
    have hp4 := hp'.only o4 fun _ _ z => z
    refine hp4.read hj2 fun id5 tt5 hg5 hidb5 => ?_
    rw [ldV_at hg5 hlg]
    have hel4 := hp4.els L[j] (List.getElem_mem hj2)
    refine p16 f4 hel4 i'.fit (by omega) (Nat.le_trans i'.held.len (by omega)) fun h6 g6 f6 n6 => ?_
    have i6 := i'.append logB L[j].2 (by omega)
    have hid6 := n6.id
    have hav6 := (SlB.ofRow r4).only n6.o
    have hsv6 := (hsv.only o4).only n6.o
    have hp6 := hp4.only n6.o (Own.low f4)
    rcases o'.append i' c1 (by omega) (by omega) (by omega) with ⟨d1, d2⟩ | ⟨d1, d2⟩
    · rw [d1]
      refine fBE_r nz0 ?_
      repeat with_reducible first | refine jn_r ?_ | refine brT_r ?_ | refine brF_r ?_ | refine pickT_r ?_ | refine pickF_r ?_ | refine asB_r ?_ | refine asI_r ?_ | refine asBUb_r ?_ | refine asBUs_r ?_ | refine lv_r ?_ | refine jd_r ?_
      rw [inc_nat (by omega)]
      refine fI_r ?_
      refine next (L.length - (j + 1)) _ _ _ (by omega) ⟨j + 1, g6, _, all ++ L[j].2, sv, v4, svv, _, rfl, hj2, by rw [hid], rfl, f6, hid6.trans hid, d2, i6, by omega, by rw [List.length_append]; omega, hav6, hsv6, hp6⟩
    · refine fBE_r (nzb d1) ?_
      repeat with_reducible first | refine jn_r ?_ | refine brT_r ?_ | refine brF_r ?_ | refine pickT_r ?_ | refine pickF_r ?_ | refine asB_r ?_ | refine asI_r ?_ | refine asBUb_r ?_ | refine asBUs_r ?_ | refine lv_r ?_ | refine jd_r ?_
      rw [← hid6]
      exact hj _ _ _ ⟨g6, _, all ++ L[j].2, sv, v4, svv, _, rfl, rfl, f6, d2, i6, by omega, hav6, by rw [List.length_append]; omega, hsv6⟩
theorem t3 {h : H} {a0 : AV} {L : List (AV × List UInt8)} {fuse k t : Int} {K : Bool → H → Prop} (hb : h.base ≤ h.next) (hp : Pcs h a0 L) (hfu : fuse < 9223372036854775808) (hK : ∀ h', K true h') : s3G J0 pLives s10 s11 s12 s13 s14 s15 s16 s17' s18 s19 s20 s21 a0 fuse k t h K := by
  have hm : mostRoom = 140737488355328 := rfl
  unfold s3G pLives
  refine fB_r ?_
  refine brF_r ?_
  refine (hp.len _).mpr ?_
  by_cases c1 : L.length ≤ 100
  rotate_left
  · refine fBE_r (ltI_nat.2 (show 100 < L.length by omega)) ?_
    repeat with_reducible first | refine jn_r ?_ | refine brT_r ?_ | refine brF_r ?_ | refine pickT_r ?_ | refine pickF_r ?_ | refine asB_r ?_ | refine asI_r ?_ | refine asBUb_r ?_ | refine asBUs_r ?_ | refine lv_r ?_
    exact hK _
  refine fBE_r (ltI_nat'.2 c1) ?_
  repeat with_reducible first | refine jn_r ?_ | refine brT_r ?_ | refine brF_r ?_ | refine pickT_r ?_ | refine pickF_r ?_ | refine asB_r ?_ | refine asI_r ?_ | refine asBUb_r ?_ | refine asBUs_r ?_ | refine lv_r ?_
  by_cases c2 : 0 ≤ k
  rotate_left
  · refine fBE_r (ltI_true.2 (by simp only [Int.ofNat_eq_natCast]; omega)) ?_
    repeat with_reducible first | refine jn_r ?_ | refine brT_r ?_ | refine brF_r ?_ | refine pickT_r ?_ | refine pickF_r ?_ | refine asB_r ?_ | refine asI_r ?_ | refine asBUb_r ?_ | refine asBUs_r ?_ | refine lv_r ?_
    exact hK _
  refine fBE_r (ltI_false.2 (by simp only [Int.ofNat_eq_natCast]; omega)) ?_
  repeat with_reducible first | refine jn_r ?_ | refine brT_r ?_ | refine brF_r ?_ | refine pickT_r ?_ | refine pickF_r ?_ | refine asB_r ?_ | refine asI_r ?_ | refine asBUb_r ?_ | refine asBUs_r ?_ | refine lv_r ?_
  by_cases c3 : 0 ≤ t
  rotate_left
  · refine fBE_r (ltI_true.2 (by simp only [Int.ofNat_eq_natCast]; omega)) ?_
    repeat with_reducible first | refine jn_r ?_ | refine brT_r ?_ | refine brF_r ?_ | refine pickT_r ?_ | refine pickF_r ?_ | refine asB_r ?_ | refine asI_r ?_ | refine asBUb_r ?_ | refine asBUs_r ?_ | refine lv_r ?_
    exact hK _
  refine fBE_r (ltI_false.2 (by simp only [Int.ofNat_eq_natCast]; omega)) ?_
  repeat with_reducible first | refine jn_r ?_ | refine brT_r ?_ | refine brF_r ?_ | refine pickT_r ?_ | refine pickF_r ?_ | refine asB_r ?_ | refine asI_r ?_ | refine asBUb_r ?_ | refine asBUs_r ?_ | refine lv_r ?_
  refine p10 hb (by decide) (by decide) fun h1 f1 o1 => ?_
  obtain ⟨g1, hg1⟩ : ∃ g1 : FsG, g1 = ⟨h.next + 2, h.next, h.next + 1, none⟩ := ⟨_, rfl⟩
  rw [← hg1] at f1
  have f1 : FsAt h1 g1 (Fs.new 1048576) := f1
  rw [show h.next + 2 = g1.id by rw [hg1]]
  have i1 := Fs.new_inv 1048576
  obtain ⟨k1, k2, k3⟩ := setup3
  have i2 := i1.create (by omega) (by omega) logB
  have i3 := i2.syncNames (by omega)
  have hp1 := hp.only o1 fun _ _ => id
  refine fBE_r nz0 ?_
  repeat with_reducible first | refine jn_r ?_ | refine brT_r ?_ | refine brF_r ?_ | refine pickT_r ?_ | refine pickF_r ?_ | refine asB_r ?_ | refine asI_r ?_ | refine asBUb_r ?_ | refine asBUs_r ?_ | refine lv_r ?_
  rw [str_log]
  refine p11 f1 (i1.fit.mono (by omega)) (by show (0 + 1) * 72 ≤ _; omega) fun h2 g2 f2 n2 => ?_
  rw [← n2.id, k1]
  have hp2 := hp1.only n2.o (Own.low f1)
  repeat with_reducible first | refine jn_r ?_ | refine brT_r ?_ | refine brF_r ?_ | refine pickT_r ?_ | refine pickF_r ?_ | refine asB_r ?_ | refine asI_r ?_ | refine asBUb_r ?_ | refine asBUs_r ?_ | refine lv_r ?_
  refine fBE_r nz0 ?_
  repeat with_reducible first | refine jn_r ?_ | refine brT_r ?_ | refine brF_r ?_ | refine pickT_r ?_ | refine pickF_r ?_ | refine asB_r ?_ | refine asI_r ?_ | refine asBUb_r ?_ | refine asBUs_r ?_ | refine lv_r ?_
  refine p12 f2 (i2.fit.mono (by omega)) fun h3 g3 f3 n3 => ?_
  rw [← n3.id, k2]
  have hp3 := hp2.only n3.o (Own.low f2)
  repeat with_reducible first | refine jn_r ?_ | refine brT_r ?_ | refine brF_r ?_ | refine pickT_r ?_ | refine pickF_r ?_ | refine asB_r ?_ | refine asI_r ?_ | refine asBUb_r ?_ | refine asBUs_r ?_ | refine lv_r ?_
  refine fBE_r nz0 ?_
  repeat with_reducible first | refine jn_r ?_ | refine brT_r ?_ | refine brF_r ?_ | refine pickT_r ?_ | refine pickF_r ?_ | refine asB_r ?_ | refine asI_r ?_ | refine asBUb_r ?_ | refine asBUs_r ?_ | refine lv_r ?_
  clear f1 f2 k1 k2 i1 i2
  generalize (((Fs.new 1048576).create logB).2.syncNames).2 = fs3 at k3 i3 f3
  -- what is left, once the fuse lies or not
  have main : ∀ {h4 : H} {g4 : FsG} {fs4 : Fs}, FsAt h4 g4 fs4 → SynOn [] [] fs4 → Am.Inv fs4 1000 1 → Pcs h4 a0 L → rest3 K a0 k t (.ptr g4.id 0) h4 := fun f4 o4 i4 hp4 => rest3_ok f4 o4 i4 hp4 c1 c2 c3 hK
  by_cases c4 : fuse < 0
  · refine fBE_r (show Bool.not (ltI fuse (Int.ofNat 0)) = false by rw [ltI_true.2 (show fuse < Int.ofNat 0 from c4)]; rfl) ?_
    repeat with_reducible first | refine jn_r ?_ | refine brT_r ?_ | refine brF_r ?_ | refine pickT_r ?_ | refine pickF_r ?_ | refine asB_r ?_ | refine asI_r ?_ | refine asBUb_r ?_ | refine asBUs_r ?_ | refine lv_r ?_
    exact main f3 k3 (i3.mono (by omega) (by omega)) hp3
  · refine fBE_r (show Bool.not (ltI fuse (Int.ofNat 0)) = true by rw [ltI_false.2 (show Int.ofNat 0 ≤ fuse from Int.not_lt.1 c4)]; rfl) ?_
    repeat with_reducible first | refine jn_r ?_ | refine brT_r ?_ | refine brF_r ?_ | refine pickT_r ?_ | refine pickF_r ?_ | refine asB_r ?_ | refine asI_r ?_ | refine asBUb_r ?_ | refine asBUs_r ?_ | refine lv_r ?_
    have k4 := k3.fuse (Int.not_lt.1 c4)
    have i4 := i3.fuse hfu
    refine p13 f3 fun h4 g4 f4 n4 => ?_
    rw [← n4.id, k4.1]
    have hp4 := hp3.only n4.o (Own.low f3)
    repeat with_reducible first | refine jn_r ?_ | refine brT_r ?_ | refine brF_r ?_ | refine pickT_r ?_ | refine pickF_r ?_ | refine asB_r ?_ | refine asI_r ?_ | refine asBUb_r ?_ | refine asBUs_r ?_ | refine lv_r ?_
    refine fBE_r nz0 ?_
    repeat with_reducible first | refine jn_r ?_ | refine brT_r ?_ | refine brF_r ?_ | refine pickT_r ?_ | refine pickF_r ?_ | refine asB_r ?_ | refine asI_r ?_ | refine asBUb_r ?_ | refine asBUs_r ?_ | refine lv_r ?_
    exact main f4 k4.2 (i4.mono (by omega) (by omega)) hp4
end Go.Proofs.Ytiejkbmobmgdkaa
