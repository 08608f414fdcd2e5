/- Crash: what is pending is lost, but for its first steps. No condition. -/
import Derived.Test.YtiejkbmobmgdkaaVxO
namespace Go.Am
open Go
set_option linter.all false
def keepF (fl : List (Int × List UInt8)) : List (List UInt8 × Int) → List (Int × List UInt8) → List (Int × List UInt8)
  | [], acc => acc
  | p :: l, acc => keepF fl l (fins acc p.2 (fbytes fl p.2))
theorem fget_fins {x y : Int} {b : List UInt8} : ∀ {l : List (Int × List UInt8)}, fget l y = none → y ≠ x → fget (fins l x b) y = none
  | [], _, h => by unfold fins fget; rw [if_neg fun e => h e.symm]; rfl
  | p :: l, h, hn => by
    unfold fget at h
    unfold fins
    split at h
    · cases h
    · rename_i hp
      split
      · unfold fget; rw [if_neg fun e => hn e.symm]; unfold fget; rw [if_neg hp]; exact h
      · unfold fget; rw [if_neg hp]; exact fget_fins h hn
/-- the steps that a crash keeps -/
def Fs.crashed (fs : Fs) (k t : Nat) : List Stp := fs.wait.take k ++ (match fs.wait[k]? with
  | some s => if s.kind = 0 then [{ s with bytes := s.bytes.take (min t (s.bytes.length - 1)) }] else []
  | none => [])
def Fs.crash (fs : Fs) (k t : Int) : Int × Fs := if k < 0 ∨ t < 0 then (2, fs) else
  (0, { fs with sure := ⟨keepF (fs.sure.steps (fs.crashed k.toNat t.toNat)).files (fs.sure.steps (fs.crashed k.toNat t.toNat)).names [], (fs.sure.steps (fs.crashed k.toNat t.toNat)).names⟩, wait := [], fused := false, off := false })
end Go.Am
namespace Go.Proofs.Ytiejkbmobmgdkaa
open Go Go.Am
set_option linter.all false
set_option maxRecDepth 100000
theorem keptK_at {h : H} {mf mn : Nat} {t : Tre} (q : TreeAt h mf mn t) {k : List (AV × AV) → Prop} : ∀ (l : List (List UInt8 × Int)) (acc : List (AV × AV)) (fa : List (Int × List UInt8)), All2 (FileE h) acc fa → (∀ p ∈ l, fget fa p.2 = none) → (l.map (·.2)).Nodup →
    (∀ kept, All2 (FileE h) kept (keepF t.files l fa) → k kept) → keptK (.map mf) h (l.map nameE) acc k
  | [], acc, fa, a, _, _, hk => hk acc a
  | p :: l, acc, fa, a, hn, hd, hk => by
    obtain ⟨v, e1, hv⟩ := lookF vt q p.2
    have e2 : aFindC (.int .i64) (.int .i64 p.2) acc = some none := by
      rcases findF a p.2 with ⟨f1, f2⟩ | ⟨b', v', f1, f2, f3⟩
      · exact f2
      · rw [hn p List.mem_cons_self] at f1; cases f1
    show asI .i64 (.int .i64 p.2) _
    rw [asI_int, e1, op'_some, e2, op'_some]
    rw [List.map_cons, List.nodup_cons] at hd
    refine keptK_at q l _ (fins fa p.2 (fbytes t.files p.2)) (insF a hv) (fun r hr => fget_fins (hn r (List.mem_cons_of_mem _ hr)) fun e => hd.1 (e ▸ List.mem_map.2 ⟨r, hr, rfl⟩)) hd.2 hk
/-- what stands behind the steps -/
theorem p17r {h : H} {g : FsG} {fs : Fs} {N : Nat} {k : Int → H → Prop} (f : FsAt h g fs) (hN : N ≤ h.next) (hd : (fs.sure.names.map (·.2)).Nodup) (hl : fs.sure.names.length ≤ 1000000)
    (hk : ∀ h' g', FsAt h' g' { fs with sure := ⟨keepF fs.sure.files fs.sure.names [], fs.sure.names⟩, wait := [], fused := false, off := false } → Nxt h g h' g' → k 0 h') : rest17 N k (.ptr g.id 0, ()) [] h := by
  obtain ⟨w, e1, e2⟩ := f.obj
  have wf := f.wf
  have a := f.apart
  have lid := Own.live f (.inl rfl : Own g g.id)
  have lf := f.tree.lf
  have ln := f.tree.ln
  unfold rest17 noDfr
  dsimp only
  rw [okNil_ptr, faK_ptr]
  refine stV_r e1 rfl rfl f.bs fun h37 o37 n37 g37 => ?_
  rw [okNil_ptr, faK_ptr]
  refine stV_r g37 rfl rfl (by rw [o37.base]; exact f.bs) fun h39 o39 n39 g39 => ?_
  rw [okNil_ptr, faK_ptr]
  have o39' := o37.trans o39 fun _ _ => id
  refine stV_r g39 rfl rfl (by rw [o39'.base]; exact f.bs) fun h41 o41 n41 g41 => ?_
  have o := o39'.trans o41 fun _ _ => id
  have q41 := f.tree.only o (fun c => a.1 c.symm) fun c => a.2.1 c.symm
  refine ck_intro ((ble_iff _ _).2 (by omega)) (ck_intro ((ble_iff _ _).2 q41.wf) ?_)
  refine push_r fun h43 o43 n43 g43 => ?_
  have q43 := q41.only o43 id id
  have e43 := o43.at g41 rfl id
  rw [okNil_ptr, asPtr_ptr, faK_ptr, faK_ptr, ldV_at e43 rfl]
  unfold smK
  simp only [q43.names]
  refine ck_intro ((ble_iff _ _).2 q43.bn) (ck_intro ((ble_iff _ _).2 (by simpa using hl)) (ck_intro ((blt_iff _ _).2 (by omega)) ?_))
  rw [faK_ptr, ldV_at e43 rfl]
  show ck (Nat.blt g.mf h41.next) _
  refine ck_intro ((blt_iff _ _).2 (by omega)) ?_
  refine keptK_at q43 fs.sure.names [] [] .nil (fun _ _ => rfl) hd fun kept hkept => ?_
  refine put_r g43 rfl (by intros; intro c; cases c) (by rw [o43.base]; exact q41.wf) fun ha oa na ga => ?_
  refine push_r fun hb ob nb gb => ?_
  have oab : Only (· = h41.next) h43 hb := oa.trans ob fun _ _ c => c.elim
  have eb := oab.at e43 rfl fun e => by omega
  have b43 : h43.base = h.base := o43.base.trans o.base
  refine stV_r eb rfl rfl (by rw [oab.base, b43]; exact f.bs) fun hc oc nc gc => ?_
  have ohc : Only (· = g.id) h hc := ((o.trans o43 fun _ _ c => c.elim).trans oab fun i hi e => by omega).trans oc fun _ _ => id
  have gk := oc.at (ob.at ga rfl id) rfl fun e => by omega
  refine hk hc ⟨g.id, h41.next, g.mn, none⟩ ⟨by rw [ohc.base]; exact f.bs, ⟨.nils, gc, .inl ⟨rfl, rfl, rfl⟩⟩, ?_⟩ ⟨rfl, ohc.imp fun _ _ c => .inl c, fun j c => ?_⟩
  · have t := f.tree.only ohc (fun c => a.1 c.symm) fun c => a.2.1 c.symm
    exact ⟨by show hc.base ≤ h41.next; rw [ohc.base]; omega, t.bn, fun e => by have : h41.next = g.mn := e; omega, ⟨kept, gk, (hkept.only oab).only oc⟩, t.names⟩
  · rcases c with c | c | c | c
    · exact .inl (.inl c)
    · right; have : j = h41.next := c; omega
    · exact .inl (.inr (.inr (.inl c)))
    · cases c
end Go.Proofs.Ytiejkbmobmgdkaa
