/- Left: how many bytes there is room for. No condition. -/
import Derived.Test.YtiejkbmobmgdkaaVxI
namespace Go.Am
open Go
set_option linter.all false
noncomputable def takeLeft (fl : List (Int × List UInt8)) : List (List UInt8 × Int) → Int → Int
  | [], n => n
  | p :: l, n => takeLeft fl l (wrapF .i64 (Int.sub n (Int.ofNat (fbytes fl p.2).length)))
noncomputable def Fs.space (fs : Fs) : Int := if fs.asked [] ≠ 0 then 0 else takeLeft fs.held.files fs.held.names fs.room
end Go.Am
namespace Go.Proofs.Ytiejkbmobmgdkaa
open Go Go.Am
set_option linter.all false
set_option maxRecDepth 100000
theorem lenOf_at {h : H} {j mf mn : Nat} {t : Tre} (q : TreeAt h mf mn t) (e : h.get j = .cells false 57 [.map mf, .map mn]) (x : Int) (k : Nat → Prop) : lenOf (.ptr j 0) h (.int .i64 x) k = k (fbytes t.files x).length := by
  unfold lenOf faP ldP
  rw [asI_int, asPtr_ptr, fN_eq]
  dsimp only
  rw [asPtr_ptr, e, asRow_cells]
  show op' (some (AV.map mf)) _ = _
  obtain ⟨v, e1, hv⟩ := lookF vt q x
  rw [op'_some, e1, op'_some, hv.len]
theorem foldOff_at {h : H} {j mf mn : Nat} {t : Tre} (q : TreeAt h mf mn t) (e : h.get j = .cells false 57 [.map mf, .map mn]) : ∀ (l : List (List UInt8 × Int)) (n : Int) (k : Int → Prop), foldOff (.ptr j 0) h (l.map nameE) n k = k (takeLeft t.files l n)
  | [], n, k => rfl
  | p :: l, n, k => by
    show lenOf (.ptr j 0) h (.int .i64 p.2) (fun x => fI _ fun n' => foldOff (.ptr j 0) h (l.map nameE) n' k) = _
    rw [lenOf_at q e, fI_eq, foldOff_at q e l]
    rfl
theorem p27 {h : H} {g : FsG} {fs : Fs} {k : Int → H → Prop} (f : FsAt h g fs) (fit : fs.Fits mostRoom) (hl : fs.held.names.length ≤ 1000000) (hk : ∀ h', FsAt h' g fs → Only noL h h' → k fs.space h') : s27' (.ptr g.id 0) h k := by
  unfold s27'
  refine p34 (l := []) f (.inl ⟨rfl, rfl⟩) (by show 0 < 4611686018427387904; omega) ?_
  rw [fB_eq]
  refine br_intro (fun h0 => ?_) fun h0 => ?_
  · have h0 : fs.asked [] ≠ 0 := eqI_false.1 (Am.not_true.1 h0)
    have : fs.space = 0 := by unfold Fs.space; rw [if_pos h0]
    rw [this] at hk
    exact hk h f (Only.refl _ _)
  · have h0 : fs.asked [] = 0 := eqI_true.1 (not_false'.1 h0)
    have : fs.space = takeLeft fs.held.files fs.held.names fs.room := by unfold Fs.space; rw [if_neg (by rw [h0]; simp)]
    rw [this] at hk
    obtain ⟨w, e1, _⟩ := f.obj
    rw [okNil_ptr, faK_ptr, ldI_at e1 rfl]
    refine push_r fun h7 o7 n7 g7 => ?_
    have f7 := f.only o7 fun _ _ => id
    refine p35 f7 fit fun h8 mf mn t8 hmf hmn o8 => ?_
    have o08 := o7.trans o8 fun _ _ => id
    refine ck_intro (reads_self (aLoad1_at (o08.at e1 rfl id)) (same_int _ _)) ?_
    rw [asAgg_agg]
    refine stN_r (o8.at g7 rfl id) rfl rfl rfl (by rw [o08.base]; exact f.wf) fun h10 o10 n10 g10 => ?_
    have o010 : Only noL h h10 := o08.trans o10 fun i hi e => by omega
    refine ck_intro (reads_self (aLoad1_at (o010.at e1 rfl id)) (same_int _ _)) ?_
    have t10 := t8.only o10 (fun e => by omega) fun e => by omega
    rw [ldV_at g10 rfl]
    unfold smK
    simp only [t10.names]
    refine ck_intro ((ble_iff _ _).2 t10.bn) (ck_intro ((ble_iff _ _).2 (by simpa using hl)) ?_)
    rw [foldOff_at t10 g10]
    refine push_r fun h' o' n' g' => ?_
    have o := o010.trans o' fun _ _ => id
    exact hk h' (f.only o fun _ _ => id) o
end Go.Proofs.Ytiejkbmobmgdkaa
