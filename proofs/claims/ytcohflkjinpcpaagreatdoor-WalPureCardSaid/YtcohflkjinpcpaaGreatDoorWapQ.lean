/- lives, run by the kernel over the package variables; whatever comes behind it. No condition. -/
import Derived.Test.YtcohflkjinpcpaaGreatDoorAmS4
import Derived.Test.YtcohflkjinpcpaaGreatDoorWaQ
import Derived.Test.YtcohflkjinpcpaaGreatDoorAmL7
namespace Go.Proofs.YtcohflkjinpcpaaGreatDoor
open Go Go.Am
set_option maxRecDepth 100000
set_option linter.all false
def HgLit (ts us : Nat → Nat) : H := ⟨(.nd (.cells false (ts 0) [.int .u64 1, .int .u64 10, .int .u64 100, .int .u64 1000, .int .u64 10000, .int .u64 100000, .int .u64 1000000, .int .u64 10000000, .int .u64 100000000, .int .u64 1000000000, .int .u64 10000000000, .int .u64 100000000000, .int .u64 1000000000000, .int .u64 10000000000000, .int .u64 100000000000000, .int .u64 1000000000000000, .int .u64 10000000000000000, .int .u64 100000000000000000, .int .u64 1000000000000000000, .int .u64 10000000000000000000]) (.nd .dead (.nd (.cells false (ts 3) [.int .u8 0, .int .u8 1, .int .u8 56, .int .u8 2, .int .u8 57, .int .u8 49, .int .u8 28, .int .u8 3, .int .u8 61, .int .u8 58, .int .u8 42, .int .u8 50, .int .u8 38, .int .u8 29, .int .u8 17, .int .u8 4, .int .u8 62, .int .u8 47, .int .u8 59, .int .u8 36, .int .u8 45, .int .u8 43, .int .u8 51, .int .u8 22, .int .u8 53, .int .u8 39, .int .u8 33, .int .u8 30, .int .u8 24, .int .u8 18, .int .u8 12, .int .u8 5, .int .u8 63, .int .u8 55, .int .u8 48, .int .u8 27, .int .u8 60, .int .u8 41, .int .u8 37, .int .u8 16, .int .u8 46, .int .u8 35, .int .u8 44, .int .u8 21, .int .u8 52, .int .u8 32, .int .u8 23, .int .u8 11, .int .u8 54, .int .u8 26, .int .u8 40, .int .u8 15, .int .u8 34, .int .u8 20, .int .u8 31, .int .u8 10, .int .u8 25, .int .u8 14, .int .u8 19, .int .u8 9, .int .u8 13, .int .u8 8, .int .u8 7, .int .u8 6]) .lf .lf) .lf) (.nd (.cells false (ts 2) [.int .u8 0, .int .u8 1, .int .u8 28, .int .u8 2, .int .u8 29, .int .u8 14, .int .u8 24, .int .u8 3, .int .u8 30, .int .u8 22, .int .u8 20, .int .u8 15, .int .u8 25, .int .u8 17, .int .u8 4, .int .u8 8, .int .u8 31, .int .u8 27, .int .u8 13, .int .u8 23, .int .u8 21, .int .u8 19, .int .u8 16, .int .u8 7, .int .u8 26, .int .u8 12, .int .u8 18, .int .u8 6, .int .u8 11, .int .u8 5, .int .u8 10, .int .u8 9]) .lf .lf)), 4, 4⟩
theorem lives_run (ts us : Nat → Nat) (K : AV → Prop) : K (.bool true) = g4 [] (HgLit ts us) fun r _ => K r := by kernel_rfl
end Go.Proofs.YtcohflkjinpcpaaGreatDoor

/- lives, and the law over what its callees answer. No condition. -/
namespace Go.Proofs.YtcohflkjinpcpaaGreatDoor
open Go Go.Am
set_option maxRecDepth 100000
set_option linter.all false
mutual
theorem flat_under : ∀ (n : Nat) (a : AV), a.flat = true → a.under n
  | n, .bool _, _ | n, .int _ _, _ | n, .str _, _ | n, .nilp, _ | n, .nils, _ | n, .nilm, _ | n, .nilf, _ | n, .nili, _ | n, .junk, _ => by simp [AV.under]
  | n, .agg cs, h | n, .tuple cs, h => by simp only [AV.under]; exact flatL_under n cs (by simpa [AV.flat] using h)
  | n, .ptr _ _, h | n, .slice _ _ _ _ _ _, h | n, .map _, h | n, .yield _, h | n, .func _ _ _, h | n, .iface _ _, h | n, .glob _ _, h => by simp [AV.flat] at h
theorem flatL_under : ∀ (n : Nat) (cs : List AV), AV.flatL cs = true → AV.underL n cs
  | n, [], _ => by simp [AV.underL]
  | n, a :: cs, h => by
    simp only [AV.flatL, Bool.and_eq_true] at h
    exact ⟨flat_under n a h.1, flatL_under n cs h.2⟩
end
theorem rows_hg (ts us : Nat → Nat) : AllRows (HgLit ts us) := by
  intro id hid
  match id, hid with
  | 0, _ => exact .inl ⟨_, _, _, rfl, flatL_under _ _ rfl⟩
  | 1, _ => exact .inr (.inr rfl)
  | 2, _ => exact .inl ⟨_, _, _, rfl, flatL_under _ _ rfl⟩
  | 3, _ => exact .inl ⟨_, _, _, rfl, flatL_under _ _ rfl⟩
  | n + 4, h => exact absurd (show n + 4 < 4 from h) (by omega)
def LivQ (h : H) : Prop := ∃ ts us : Nat → Nat, Sub (HgLit ts us) h
theorem gp_sub {ts us : Nat → Nat} {h : H} (s : Sub (HgLit ts us) h) : GP h :=
  ⟨ts 0, (s.get 0 (show 0 < 4 by decide)).symm.trans rfl, Nat.lt_of_lt_of_le (show 0 < 4 by decide) s.le⟩
theorem alone_intro {g : Fun} {xs : List AV} {h0 h : H} {k : AV → H → Prop} (s : Sub h0 h) (r : AllRows h0) (u : AV.underL h0.next xs) (e : g xs h0 fun r _ => AV.under h0.next r ∧ k r h) : aloneF g xs h k := ⟨h0, s, r, u, e⟩
theorem liv_gen {P : Program} {g : Fun} (hok : FunOk P 4 g) (hrun : ∀ (ts us : Nat → Nat) (K : AV → Prop), K (.bool true) = g [] (HgLit ts us) fun r _ => K r) : FunOk P 4 (pLiv LivQ) := hok.alone.imp fun xs h k e0 => by
  obtain ⟨hx, hq, e⟩ := e0
  subst hx
  obtain ⟨ts, us, s⟩ := hq
  have h1 : AV.under (HgLit ts us).next (.bool true) ∧ k (.bool true) h := ⟨by simp only [AV.under], e⟩
  have h2 : AV.underL (HgLit ts us).next [] := by simp only [AV.underL]
  exact alone_intro s (rows_hg ts us) h2 (Eq.mp (hrun ts us (fun r => AV.under (HgLit ts us).next r ∧ k r h)) h1)
theorem q4_ok : FunOk Tryz.prog 4 (pLiv LivQ) := liv_gen g4_ok lives_run
noncomputable def f12 : Int → H → (Str → Int → H → Prop) → Prop := s12G J0 s36 p37
theorem q12_ok : FunOk Tryz.prog 12 (w12 f12) := (fun_ok ty_ok mixed (gam_ok (J := J0) (tab_cons g36_ok (tab_cons p37_ok (tab_nil fls_fun)))) Tryz.func12 (fun args w => by simp)).imp fun xs h k e0 => by
  obtain ⟨a0, xs0, rfl, e1⟩ := arg_imp e0
  obtain ⟨rfl, e2⟩ := noArg_imp e1
  obtain ⟨a0, rfl, e3⟩ := asI_iff.1 e2
  exact (s12_eq J0 s36 p37 a0 h k).mpr e3
noncomputable def f3 : AV → AV → Int → H → (Bool → H → Prop) → Prop := s3G J0 (pLiv LivQ) s5 s6 s7 s8 s9 s10 s11 f12 s13 s14 s15 s16 s17 s18 s19
theorem q3_ok : FunOk Tryz.prog 3 (w3 f3) := (fun_ok ty_ok mixed (gam_ok (J := J0) (tab_cons q4_ok (tab_cons g5_ok (tab_cons g6_ok (tab_cons g7_ok (tab_cons g8_ok (tab_cons g9_ok (tab_cons g10_ok (tab_cons g11_ok (tab_cons q12_ok (tab_cons g13_ok (tab_cons g14_ok (tab_cons g15_ok (tab_cons g16_ok (tab_cons g17_ok (tab_cons g18_ok (tab_cons g19_ok (tab_nil fls_fun)))))))))))))))))) Tryz.func3 (fun args w => by simp)).imp fun xs h k e0 => by
  obtain ⟨a0, xs0, rfl, e1⟩ := arg_imp e0
  obtain ⟨a1, xs1, rfl, e2⟩ := arg_imp e1
  obtain ⟨a2, xs2, rfl, e3⟩ := arg_imp e2
  obtain ⟨rfl, e4⟩ := noArg_imp e3
  obtain ⟨a2, rfl, e5⟩ := asI_iff.1 e4
  exact (s3_eq J0 (pLiv LivQ) s5 s6 s7 s8 s9 s10 s11 f12 s13 s14 s15 s16 s17 s18 s19 a0 a1 a2 h k).mpr e5
theorem w3_of {q n : Int} {l : List Wt} {wv bv : AV} {b : List UInt8} {h : H} {ts us : Nat → Nat} (s : ∀ h', Low h.next h h' → Sub (HgLit ts us) h') (r : RowP wrc 3 h wv l) (sb : SlB h bv b) (hb : h.base ≤ h.next) (hl : l.length ≤ 140737488351232) (hbl : b.length ≤ 140737488351232) :
    w3 f3 [.agg [.int .i64 q, wv], bv, .int .i64 n] h isT := by
  show asI .i64 (.int .i64 n) (fun a2 => f3 (.agg [.int .i64 q, wv]) bv a2 h fun r0 h => isT (.bool r0) h)
  rw [asI_int]
  exact t3 LivQ r sb (gp_sub (s h (Low.refl _ _))) hb hl hbl (fun h' lo => ⟨ts, us, s h' lo⟩) fun h' => rfl
end Go.Proofs.YtcohflkjinpcpaaGreatDoor
