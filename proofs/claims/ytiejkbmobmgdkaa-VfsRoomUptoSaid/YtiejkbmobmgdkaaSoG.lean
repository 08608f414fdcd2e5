/- Patterns are broken: elements are scattered within a part. No condition. -/
import Derived.Test.YtiejkbmobmgdkaaSoF
namespace Go.Am
open Go
set_option linter.all false
def lenTab : Str := ⟨256, 496986003408712215933005303621146343841837811690876167382323004466384420695090407243345123874780946046625255262057845613767806773758184921447759720770971536008171983842311960805720366577116933250839345203839274948261284255908394484732272583221484877694546905335834403051067785895034095251181560891789708940188598129052595634438001880866652824740680664595948164050600812232986714152902334120417949232733424961741260388658846598210939813666227264727603044226856020347194099943897342244906131705541414413428559898943151040826816076322978570758226444464494629814583418847495712557856038296917933182380796641777551368⟩
theorem lenTab_ok : ∀ n, n < 256 → (1 ≤ n → 2 ^ (lenTab.get n) ≤ 2 * n) ∧ lenTab.get n ≤ 8 := by decide +kernel
theorem ixs_r {s : Str} {kk : IntKind} {i : Nat} {k : Int → Prop} (hi : i < s.len) (q : k (Int.ofNat (s.get i))) : ixsK (.str s) (.int kk (Int.ofNat i)) k := by
  show ck (Nat.blt i s.len) (fN (s.get i) fun c => k (Int.ofNat c))
  rw [(blt_iff _ _).2 hi, ck_t, fN_eq]; exact q
theorem wu64 {i : Nat} (h : i < 4611686018427387904) : wrapF .u64 (Int.ofNat i) = Int.ofNat i := wrapF_nat (by show i < 18446744073709551616; omega)
theorem land_le (a b : Nat) : Nat.land a b ≤ b := Nat.and_le_right
theorem landF_le {x : Int} {m : Nat} (h : m < 4611686018427387904) : ∃ v, v ≤ m ∧ landF .u64 x (Int.ofNat m) = Int.ofNat v := by
  have e : toU .u64 (Int.ofNat m) = m := Nat.mod_eq_of_lt (by show m < 18446744073709551616; omega)
  refine ⟨Nat.land (toU .u64 x) m, land_le _ _, ?_⟩
  unfold landF
  rw [e]
  exact wu64 (Nat.lt_of_le_of_lt (land_le _ _) h)
end Go.Am
namespace Go.Proofs.Ytiejkbmobmgdkaa
open Go Go.Am
set_option linter.all false
set_option maxRecDepth 100000
theorem q68 {n : Nat} {h : H} {k : Int → H → Prop} (hn : n < 256) (hk : k (Int.ofNat (lenTab.get n)) h) : s68 (Int.ofNat n) h k := by
  have ht := (lenTab_ok n hn).2
  show s68G J0 _ h k
  unfold s68G
  repeat with_reducible first | refine jn_r ?_ | refine jb_r ?_ | refine jd_r ?_ | refine brT_r ?_ | refine brF_r ?_ | refine pickT_r ?_ | refine pickF_r ?_ | refine asB_r ?_ | refine asI_r ?_ | refine asS_r ?_ | refine asBUb_r ?_ | refine asBUs_r ?_ | refine lvS_r ?_
  refine fBE_r (show Bool.not (ltI (Int.ofNat n) (Int.ofNat 4294967296)) = false by rw [nlt, decide_eq_false (by omega)]) ?_
  repeat with_reducible first | refine jn_r ?_ | refine jb_r ?_ | refine jd_r ?_ | refine brT_r ?_ | refine brF_r ?_ | refine pickT_r ?_ | refine pickF_r ?_ | refine asB_r ?_ | refine asI_r ?_ | refine asS_r ?_ | refine asBUb_r ?_ | refine asBUs_r ?_ | refine lvS_r ?_
  refine fBE_r (show Bool.not (ltI (Int.ofNat n) (Int.ofNat 65536)) = false by rw [nlt, decide_eq_false (by omega)]) ?_
  repeat with_reducible first | refine jn_r ?_ | refine jb_r ?_ | refine jd_r ?_ | refine brT_r ?_ | refine brF_r ?_ | refine pickT_r ?_ | refine pickF_r ?_ | refine asB_r ?_ | refine asI_r ?_ | refine asS_r ?_ | refine asBUb_r ?_ | refine asBUs_r ?_ | refine lvS_r ?_
  refine fBE_r (show Bool.not (ltI (Int.ofNat n) (Int.ofNat 256)) = false by rw [nlt, decide_eq_false (by omega)]) ?_
  repeat with_reducible first | refine jn_r ?_ | refine jb_r ?_ | refine jd_r ?_ | refine brT_r ?_ | refine brF_r ?_ | refine pickT_r ?_ | refine pickF_r ?_ | refine asB_r ?_ | refine asI_r ?_ | refine asS_r ?_ | refine asBUb_r ?_ | refine asBUs_r ?_ | refine lvS_r ?_
  refine fIE_r (show wrapF .u8 (Int.ofNat n) = Int.ofNat n from wrapF_nat (by show n < 256; exact hn)) ?_
  refine ixs_r (s := lenTab) (by show n < 256; exact hn) ?_
  refine fIE_r (show wrapF .i64 (Int.ofNat (lenTab.get n)) = Int.ofNat (lenTab.get n) from wrapF_nat (by show _ < 9223372036854775808; omega)) ?_
  repeat with_reducible first | refine jn_r ?_ | refine jb_r ?_ | refine jd_r ?_ | refine brT_r ?_ | refine brF_r ?_ | refine pickT_r ?_ | refine pickF_r ?_ | refine asB_r ?_ | refine asI_r ?_ | refine asS_r ?_ | refine asBUb_r ?_ | refine asBUs_r ?_ | refine lvS_r ?_
  refine fIE_r (add_nat (i := 0) (j := lenTab.get n) (by omega)) ?_
  repeat with_reducible first | refine jn_r ?_ | refine jb_r ?_ | refine jd_r ?_ | refine brT_r ?_ | refine brF_r ?_ | refine pickT_r ?_ | refine pickF_r ?_ | refine asB_r ?_ | refine asI_r ?_ | refine asS_r ?_ | refine asBUb_r ?_ | refine asBUs_r ?_ | refine lvS_r ?_
  rw [Nat.zero_add]
  exact hk
theorem q57 {n : Nat} {h : H} {k : Int → H → Prop} (hn : n < 256) (hk : k (Int.ofNat (lenTab.get n)) h) : s57 (Int.ofNat n) h k := by
  show s57G J0 s67 s68 _ h k
  unfold s57G
  refine brF_r ?_
  exact q68 hn hk
theorem q70 {n : Nat} {h : H} {k : Int → H → Prop} (hn : n < 256) (hk : k (Int.ofNat (2 ^ lenTab.get n)) h) : s70 (Int.ofNat n) h k := by
  have ht := (lenTab_ok n hn).2
  show s70G J0 s57 _ h k
  unfold s70G
  refine fIE_r (wu64 (by omega)) ?_
  refine q57 hn ?_
  rw [asNat_int]
  refine fIE_r (c := Int.ofNat (2 ^ lenTab.get n)) ?_ hk
  have hp : 2 ^ lenTab.get n ≤ 2 ^ 8 := Nat.pow_le_pow_right (by omega) ht
  unfold shlF
  rw [nmin_eq, show min (lenTab.get n) IntKind.u64.bits = lenTab.get n by show min (lenTab.get n) 64 = _; omega]
  have e2 : Nat.shiftLeft 1 (lenTab.get n) = 2 ^ lenTab.get n := by
    show 1 <<< lenTab.get n = _
    rw [Nat.shiftLeft_eq, Nat.one_mul]
  rw [e2]
  show wrapF .u64 (Int.ofNat (1 * 2 ^ lenTab.get n)) = _
  rw [Nat.one_mul]
  exact wu64 (by omega)
theorem q71 {id : Nat} {x : Int} {h : H} {k : Int → H → Prop} (g : h.get id = .cells false 106 [.int .u64 x]) (hb : h.base ≤ id) (hk : ∀ y z h', Only (· = id) h h' → h'.get id = .cells false 106 [.int .u64 z] → k y h') : s71 (.ptr id 0) h k := by
  show s71G J0 _ h k
  unfold s71G
  refine okNil_r ?_
  rw [ldI_at g rfl]
  refine okNil_r ?_
  rw [ldI_at g rfl]
  refine fI_r (fI_r (okNil_r ?_))
  refine stV_r g rfl rfl hb fun h1 o1 n1 g1 => ?_
  refine okNil_r ?_
  rw [ldI_at g1 rfl]
  refine okNil_r ?_
  rw [ldI_at g1 rfl]
  refine fI_r (fI_r (okNil_r ?_))
  refine stV_r g1 rfl rfl (by rw [o1.base]; exact hb) fun h2 o2 n2 g2 => ?_
  refine okNil_r ?_
  rw [ldI_at g2 rfl]
  refine okNil_r ?_
  rw [ldI_at g2 rfl]
  refine fI_r (fI_r (okNil_r ?_))
  refine stV_r g2 rfl rfl (by rw [o2.base, o1.base]; exact hb) fun h3 o3 n3 g3 => ?_
  refine okNil_r ?_
  rw [ldI_at g3 rfl]
  exact hk _ _ h3 ((o1.trans o2 fun _ _ c => c).trans o3 fun _ _ c => c) g3
theorem q60 {S : Nat → Str} {b n cap : Nat} {ex : Bool} {h0 h : H} {R : Nat → Nat} {a e : Nat} {k : H → Prop} (hn : n < 256) (r : RowR S b n h0 R h) (hae : a + 12 < e) (hen : e ≤ n)
    (hk : ∀ h' R', RowR S b n h0 R' h' → Pin n a e R R' → k h') : s60 (.slice b 0 n cap 1 ex) (Int.ofNat a) (Int.ofNat e) h k := by
  show s60G J0 s70 s71 _ _ _ h k
  unfold s60G
  refine fIE_r (sub_nat (i := e) (j := a) (by omega) (by omega)) ?_
  obtain ⟨l, hl⟩ : ∃ l, l = e - a := ⟨_, rfl⟩
  rw [← hl]
  refine fBE_r (show Bool.not (ltI (Int.ofNat l) (Int.ofNat 8)) = true by rw [nlt, decide_eq_true (by omega)]) ?_
  repeat with_reducible first | refine jn_r ?_ | refine jb_r ?_ | refine jd_r ?_ | refine brT_r ?_ | refine brF_r ?_ | refine pickT_r ?_ | refine pickF_r ?_ | refine asB_r ?_ | refine asI_r ?_ | refine asS_r ?_ | refine asBUb_r ?_ | refine asBUs_r ?_ | refine lvS_r ?_
  refine fIE_r (wu64 (by omega)) ?_
  refine push_r fun h5 o5 n5 g5 => ?_
  have hnx := r.o.next
  have hbn := r.hn
  have hbb := r.hb
  have hob := r.o.base
  refine stV_r g5 rfl rfl (by rw [o5.base]; omega) fun h6 o6 n6 g6 => ?_
  have o56 : Only (· = h.next) h h6 := (o5.imp fun _ _ c => c.elim).trans o6 fun _ _ c => c
  have r6 : RowR S b n h0 R h6 := r.only o56 (fun j hj e' => by omega) (by omega)
  have hl2 := lenTab_ok l (by omega)
  obtain ⟨M, hM⟩ : ∃ M, M = 2 ^ lenTab.get l := ⟨_, rfl⟩
  have hM1 : 1 ≤ M := by rw [hM]; exact Nat.one_le_two_pow
  have hM2 : M ≤ 2 * l := by rw [hM]; exact hl2.1 (by omega)
  refine q70 (by omega) ?_
  rw [← hM]
  refine ck_intro rfl ?_
  refine fIE_r (div_nat (i := l) (j := 4) (by omega)) ?_
  refine fIE_r (mul_nat (i := l / 4) (j := 2) (by omega)) ?_
  refine fIE_r (add_nat (i := a) (j := l / 4 * 2) (by omega)) ?_
  refine fIE_r (dec_nat (by omega) (by omega)) ?_
  refine lp_rule (fun m v d h' => ∃ i R', m = n + 2 - i ∧ a ≤ i ∧ v = (.slice b 0 n cap 1 ex, .int .i64 (Int.ofNat a), .int .i64 (Int.ofNat l), .ptr h.next 0, .int .u64 (Int.ofNat M), .int .i64 (Int.ofNat i), ()) ∧ d = [] ∧ RowR S b n h0 R' h' ∧ Pin n a e R R' ∧ (∃ z, h'.get h.next = .cells false 106 [.int .u64 z]) ∧ h'.base = h.base) (fun m self v d hc inv next => ?_) (n := n + 2 - (a + l / 4 * 2 - 1)) (by show _ < 4611686018427387904; omega) ⟨a + l / 4 * 2 - 1, R, rfl, by omega, rfl, rfl, r6, Pin.refl _ _ _ _, ⟨_, g6⟩, o56.base⟩
  obtain ⟨i, R1, rfl, hai, rfl, rfl, r1, p1, ⟨z, gz⟩, hbc⟩ := inv
  dsimp only
  repeat with_reducible first | refine jn_r ?_ | refine jb_r ?_ | refine jd_r ?_ | refine brT_r ?_ | refine brF_r ?_ | refine pickT_r ?_ | refine pickF_r ?_ | refine asB_r ?_ | refine asI_r ?_ | refine asS_r ?_ | refine asBUb_r ?_ | refine asBUs_r ?_ | refine lvS_r ?_
  refine ck_intro rfl ?_
  refine fIE_r (div_nat (i := l) (j := 4) (by omega)) ?_
  refine fIE_r (mul_nat (i := l / 4) (j := 2) (by omega)) ?_
  repeat with_reducible first | refine jn_r ?_ | refine jb_r ?_ | refine jd_r ?_ | refine brT_r ?_ | refine brF_r ?_ | refine pickT_r ?_ | refine pickF_r ?_ | refine asB_r ?_ | refine asI_r ?_ | refine asS_r ?_ | refine asBUb_r ?_ | refine asBUs_r ?_ | refine lvS_r ?_
  refine fIE_r (add_nat (i := a) (j := l / 4 * 2) (by omega)) ?_
  refine fIE_r (add_nat (i := a + l / 4 * 2) (j := 1) (by omega)) ?_
  repeat with_reducible first | refine jn_r ?_ | refine jb_r ?_ | refine jd_r ?_ | refine brT_r ?_ | refine brF_r ?_ | refine pickT_r ?_ | refine pickF_r ?_ | refine asB_r ?_ | refine asI_r ?_ | refine asS_r ?_ | refine asBUb_r ?_ | refine asBUs_r ?_ | refine lvS_r ?_
  refine fBE_r nlt ?_
  by_cases hie : i ≤ a + l / 4 * 2 + 1
  rotate_left
  · rw [decide_eq_false hie]
    repeat with_reducible first | refine jn_r ?_ | refine jb_r ?_ | refine jd_r ?_ | refine brT_r ?_ | refine brF_r ?_ | refine pickT_r ?_ | refine pickF_r ?_ | refine asB_r ?_ | refine asI_r ?_ | refine asS_r ?_ | refine asBUb_r ?_ | refine asBUs_r ?_ | refine lvS_r ?_
    exact hk hc R1 r1 p1
  rw [decide_eq_true hie]
  repeat with_reducible first | refine jn_r ?_ | refine jb_r ?_ | refine jd_r ?_ | refine brT_r ?_ | refine brF_r ?_ | refine pickT_r ?_ | refine pickF_r ?_ | refine asB_r ?_ | refine asI_r ?_ | refine asS_r ?_ | refine asBUb_r ?_ | refine asBUs_r ?_ | refine lvS_r ?_
  refine q71 gz (by rw [hbc]; omega) fun y z2 h2 o2 g2 => ?_
  have r2 : RowR S b n h0 R1 h2 := r1.only o2 (fun j hj e' => by omega) (by omega)
  repeat with_reducible first | refine jn_r ?_ | refine jb_r ?_ | refine jd_r ?_ | refine brT_r ?_ | refine brF_r ?_ | refine pickT_r ?_ | refine pickF_r ?_ | refine asB_r ?_ | refine asI_r ?_ | refine asS_r ?_ | refine asBUb_r ?_ | refine asBUs_r ?_ | refine lvS_r ?_
  refine fIE_r (show wrapF .u64 (Int.sub (Int.ofNat M) (Int.ofNat 1)) = Int.ofNat (M - 1) by
    have e' : Int.sub (Int.ofNat M) (Int.ofNat 1) = Int.ofNat (M - 1) := by show (Int.ofNat M) - (Int.ofNat 1) = _; simp only [Int.ofNat_eq_natCast]; omega
    rw [e']; exact wu64 (by omega)) ?_
  obtain ⟨o, ho1, ho2⟩ := landF_le (x := y) (m := M - 1) (by omega)
  refine fIE_r ho2 ?_
  refine fIE_r (show wrapF .i64 (Int.ofNat o) = Int.ofNat o from wrapF_nat (by show o < 9223372036854775808; omega)) ?_
  refine jd_intro (fun v d h' => ∃ q, v = (.slice b 0 n cap 1 ex, .int .i64 (Int.ofNat a), .int .i64 (Int.ofNat l), .ptr h.next 0, .int .u64 (Int.ofNat M), .int .i64 (Int.ofNat i), .int .i64 (Int.ofNat q), ()) ∧ d = [] ∧ h' = h2 ∧ q < l) (fun j34 hj => ?_) fun v d h3 q => ?_
  · repeat with_reducible first | refine jn_r ?_ | refine jb_r ?_ | refine jd_r ?_ | refine brT_r ?_ | refine brF_r ?_ | refine pickT_r ?_ | refine pickF_r ?_ | refine asB_r ?_ | refine asI_r ?_ | refine asS_r ?_ | refine asBUb_r ?_ | refine asBUs_r ?_ | refine lvS_r ?_
    refine fBE_r nlt ?_
    by_cases hol : l ≤ o
    · rw [decide_eq_true hol]
      repeat with_reducible first | refine jn_r ?_ | refine jb_r ?_ | refine jd_r ?_ | refine brT_r ?_ | refine brF_r ?_ | refine pickT_r ?_ | refine pickF_r ?_ | refine asB_r ?_ | refine asI_r ?_ | refine asS_r ?_ | refine asBUb_r ?_ | refine asBUs_r ?_ | refine lvS_r ?_
      refine fIE_r (sub_nat hol (by omega)) ?_
      exact hj _ _ _ ⟨o - l, rfl, rfl, rfl, by omega⟩
    · rw [decide_eq_false hol]
      repeat with_reducible first | refine jn_r ?_ | refine jb_r ?_ | refine jd_r ?_ | refine brT_r ?_ | refine brF_r ?_ | refine pickT_r ?_ | refine pickF_r ?_ | refine asB_r ?_ | refine asI_r ?_ | refine asS_r ?_ | refine asBUb_r ?_ | refine asBUs_r ?_ | refine lvS_r ?_
      exact hj _ _ _ ⟨o, rfl, rfl, rfl, by omega⟩
  · obtain ⟨q, rfl, rfl, rfl, hq⟩ := q
    dsimp only
    repeat with_reducible first | refine jn_r ?_ | refine jb_r ?_ | refine jd_r ?_ | refine brT_r ?_ | refine brF_r ?_ | refine pickT_r ?_ | refine pickF_r ?_ | refine asB_r ?_ | refine asI_r ?_ | refine asS_r ?_ | refine asBUb_r ?_ | refine asBUs_r ?_ | refine lvS_r ?_
    refine fIE_r (add_nat (i := a) (j := q) (by omega)) ?_
    repeat with_reducible first | refine jn_r ?_ | refine jb_r ?_ | refine jd_r ?_ | refine brT_r ?_ | refine brF_r ?_ | refine pickT_r ?_ | refine pickF_r ?_ | refine asB_r ?_ | refine asI_r ?_ | refine asS_r ?_ | refine asBUb_r ?_ | refine asBUs_r ?_ | refine lvS_r ?_
    refine fIE_r (add_nat (i := a) (j := q) (by omega)) ?_
    refine ix_r (by omega) ?_
    refine r2.ld (by omega) ?_
    refine ix_r (by omega) ?_
    refine r2.ld (by omega) ?_
    refine ix_r (by omega) ?_
    obtain ⟨mv, gr⟩ := r2.get
    refine stV_r gr rfl (lputAt_map (by omega)) (by rw [r2.o.base]; exact r2.hb) fun h4 o4 n4 g4 => ?_
    have r4 : RowR S b n h0 _ h4 := ⟨⟨mv, g4⟩, r2.o.trans o4 fun _ _ c => c, r2.hb, r2.hn⟩
    refine ix_r (by omega) ?_
    refine stV_r g4 rfl (lputAt_map (by omega)) (by rw [r4.o.base]; exact r4.hb) fun h7 o7 n7 g7 => ?_
    have r7 : RowR S b n h0 (swp R1 i (a + q)) h7 := ⟨⟨mv, g7⟩, r4.o.trans o7 fun _ _ c => c, r4.hb, r4.hn⟩
    repeat with_reducible first | refine jn_r ?_ | refine jb_r ?_ | refine jd_r ?_ | refine brT_r ?_ | refine brF_r ?_ | refine pickT_r ?_ | refine pickF_r ?_ | refine asB_r ?_ | refine asI_r ?_ | refine asS_r ?_ | refine asBUb_r ?_ | refine asBUs_r ?_ | refine lvS_r ?_
    refine fIE_r (add_nat (i := i) (j := 1) (by omega)) ?_
    refine next (n + 2 - (i + 1)) _ _ _ (by omega) ⟨i + 1, _, rfl, by omega, rfl, rfl, r7, p1.trans (Pin.swp (by omega) (by omega) (by omega) (by omega) hen), ⟨z2, ?_⟩, ?_⟩
    · exact o7.at (o4.at g2 rfl (by omega)) rfl (by omega)
    · rw [o7.base, o4.base, o2.base, hbc]
end Go.Proofs.Ytiejkbmobmgdkaa
