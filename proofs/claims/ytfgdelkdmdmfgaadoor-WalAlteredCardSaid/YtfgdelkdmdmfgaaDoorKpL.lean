import Derived.Test.YtfgdelkdmdmfgaaDoorKpJ
namespace Go.Proofs.YtfgdelkdmdmfgaaDoor
open Go Go.Am
set_option linter.all false
set_option maxRecDepth 100000
section
variable {KB:Bool→H→Prop}
theorem t7 {l:List Wt} {v:AV} {h:H} (q:RowP wrc 3 h v l) (hl:l.length≤140737488351232) (hk:∀ b,KB b h):s7G J0 v h KB:=by
  unfold s7G
  refine YA l.length (fun i x h'=>x=(v,.int .i64 (Int.ofNat i),())∧h'=h) (by omega) ?_ ?_ ⟨rfl,rfl⟩
  · rintro i x h' self hi ⟨rfl, rfl⟩ hs
    dsimp only
    obtain ⟨id,o,p1,_,p3,_⟩:=q.rd Js hi
    have QL:=q.len
    have d1:∀ k,ldS (.ptr id (Nat.add o 0)) h' k=k (Str.of l[i].1):=fun k=>p3 h' 0 _ k (fun _ _=>rfl) (by decide) rfl
    have d2:∀ k,ldS (.ptr id (Nat.add o 1)) h' k=k (Str.of l[i].2.1):=fun k=>p3 h' 1 _ k (fun _ _=>rfl) (by decide) rfl
    simp only [↓QL,↓Qa,↓Qg,ZA hi,↓QO,↓p1,↓Qw,↓d1,Ws]
    cases B1:ltI (Int.ofNat 600) (Int.ofNat l[i].1.length) <;> cases B2:ltI (Int.ofNat 600) (Int.ofNat l[i].2.1.length) <;> cases B3:ltI (Int.ofNat 4096) (Int.ofNat l[i].2.1.length) <;> cases B4:ltI (Int.ofNat 4105) (Int.ofNat l[i].2.1.length) <;>
      simp only [↓Qa,↓Qg,↓QO,↓Qr,↓p1,↓Qw,↓d2,Ws,↓Qq,↓QS,↓QF,↓Qm,↓Zc,↓JG,↓Wk,B2,B3,B4,↓Bool.not_true,↓Bool.not_false,↓Qo,Ud i (by omega)] <;>
      first
      | exact hk _
      | exact hs _ _ ⟨rfl,rfl⟩
  · rintro x h' self ⟨rfl, rfl⟩
    dsimp only
    rw [q.len,Qa,Qg,Za (Nat.le_refl _),Qr]
    exact hk _
theorem eqI_same (x:Int):eqI x x=true:=Zp.2 rfl
end
end Go.Proofs.YtfgdelkdmdmfgaaDoor
namespace Go.Proofs.YtfgdelkdmdmfgaaDoor
open Go Go.Am
set_option linter.all false
set_option maxRecDepth 100000
theorem NR (ws:List Bt) (b:Bt):ZC (ws++[b])=ZC ws++Qs (YK b.1 b.2):=by
  unfold ZC V6
  rw [List.map_append,List.flatMap_append]
  simp
theorem jd_via {α:Type} (P:α→List Dfr→H→Prop) {j:α→List Dfr→H→Prop} {b:(α→List Dfr→H→Prop)→Prop} (h1:∀ v d h,P v d h→j v d h) (h2:∀ jj:α→List Dfr→H→Prop,(∀ v d h,P v d h→jj v d h)→b jj):J0.jd j b:=h2 j h1
end Go.Proofs.YtfgdelkdmdmfgaaDoor
