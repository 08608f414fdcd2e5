import Derived.Test.YtodlaigjjknpkaaGreatDoorCards
import Derived.Test.YtodlaigjjknpkaaGreatDoorSvT
import Derived.Test.YtodlaigjjknpkaaGreatDoorSvU
import Derived.Test.YtodlaigjjknpkaaGreatDoorPureR
import Derived.Lay
import Derived.LaidLaws
import Derived.MakeChecks
import Derived.SevenTiedAt
namespace Go.Proofs.YtodlaigjjknpkaaGreatDoor
open Go Go.Am Go.ChangeShapes Go.WideShapes Go.ChangeAt Go.RowKit
set_option maxRecDepth 100000
set_option linter.all false
theorem rows_hg (ts us : Nat→Nat) : AllRows (JT ts us):=by
  intro id hid
  match id,hid with
  | 0,_=>exact .inl ⟨_,_,_,rfl,by simp [AV.underL,AV.under]⟩
  | 1,_=>exact .inl ⟨_,_,_,rfl,by simp [AV.underL,AV.under]⟩
  | 2,_=>exact .inl ⟨_,_,_,rfl,flatL_under _ _ rfl⟩
  | 3,_=>exact .inr (.inr rfl)
  | 4,_=>exact .inl ⟨_,_,_,rfl,flatL_under _ _ rfl⟩
  | 5,_=>exact .inl ⟨_,_,_,rfl,flatL_under _ _ rfl⟩
  | n + 6,h=>exact absurd (show n + 6 < 6 from h) (by omega)
def Qf0 (h : H) : Prop:=∃ ts us : Nat→Nat,Sub (JT ts us) h
theorem alone_intro {g : Fun} {xs : List AV} {h0 h : H} {k : AV→H→Prop} (s : Sub h0 h) (r : AllRows h0) (u : AV.underL h0.next xs) (e : g xs h0 fun r _=>AV.under h0.next r ∧ k r h) : Qa1 g xs h k:=⟨h0,s,r,u,e⟩
theorem liv_gen {P : Program} {g : Fun} (hok : Qe P 4 g) (hrun : ∀ (ts us : Nat→Nat) (K : AV→Prop),K (.bool true) = g [] (JT ts us) fun r _=>K r) : Qe P 4 (QeO Qf0):=hok.alone.imp fun xs h k e0=>by
  obtain ⟨hx,hq,e⟩:=e0
  subst hx
  obtain ⟨ts,us,s⟩:=hq
  have h1 : AV.under (JT ts us).next (.bool true) ∧ k (.bool true) h:=⟨by simp only [AV.under],e⟩
  have h2 : AV.underL (JT ts us).next []:=by simp only [AV.underL]
  exact alone_intro s (rows_hg ts us) h2 (Eq.mp (hrun ts us (fun r=>AV.under (JT ts us).next r ∧ k r h)) h1)
theorem q4_ok : Qe Tryz.prog 4 (QeO Qf0):=liv_gen g4_ok lives_run
noncomputable def f3 : AV→AV→H→(Bool→H→Prop)→Prop:=s3G J0 (QeO Qf0) f5 Gp Gp KU KU Gq Gq
theorem q3_ok : Qe Tryz.prog 3 (w3 f3):=(Qf Qi Qj (Qg (J:=J0) (Qa q4_ok (Qa q5_ok (Qa q6_ok (Qa q7_ok (Qa q8_ok (Qa q9_ok (Qa q10_ok (Qa QeJ (Qc Qd)))))))))) Tryz.func3 (fun args w=>by simp)).imp fun xs h k e0=>by
  obtain ⟨a0,xs0,rfl,e1⟩:=Qp e0
  obtain ⟨a1,xs1,rfl,e2⟩:=Qp e1
  obtain ⟨rfl,e3⟩:=Qt e2
  exact (s3_eq J0 (QeO Qf0) f5 Gp Gp KU KU Gq Gq a0 a1 h k).mpr e3
section
variable {H' : Type} {enc : TypeId × Value→H'} {W : World} {base : Nat} {hd : Bool}
abbrev Tr' (enc : TypeId × Value→H') (W : World) (base : Nat) (hd : Bool) (fuel : Nat) (t : TypeId) (cs : List Value) (y : DataW H' × List MemPlace) : Prop:=DataW.trod enc Tryz.prog W base (fun _=>true) hd fuel t cs = some y
theorem len1 {cs : List Value} (h : cs.length = 1) : ∃ v,cs = [v]:=by
  match cs,h with
  | [v],_=>exact ⟨v,rfl⟩
theorem QaR (fuel : Nat) (cs : List Value) (y : DataW H' × List MemPlace) (hl : cs.length = 1) (h : Tr' enc W base hd fuel 9 cs y) : ∃ k : List UInt8,AV.relL YF (UU k) cs:=by
  obtain ⟨v,rfl⟩:=len1 hl
  obtain ⟨s,rfl,_⟩:=V8 Tryz.underlying9 h
  exact ⟨s.data.toList,AV.relL_cons_cons.2 ⟨by simp only [AV.rel]; exact ⟨s,rfl,rfl⟩,AV.relL_nil.2 rfl⟩⟩
theorem el_int (fuel : Nat) (cs : List Value) (y : DataW H' × List MemPlace) (hl : cs.length = 1) (h : Tr' enc W base hd fuel 3 cs y) : ∃ x : Int,AV.relL YF (KG x) cs:=by
  obtain ⟨v,rfl⟩:=len1 hl
  obtain ⟨n,rfl⟩:=Xu Tryz.underlying3 h
  exact ⟨n,AV.relL_cons_cons.2 ⟨by simp only [AV.rel],AV.relL_nil.2 rfl⟩⟩
theorem el_txn (fuel : Nat) (cs : List Value) (y : DataW H' × List MemPlace) (hl : cs.length = 2) (h : Tr' enc W base hd fuel 31 cs y) : ∃ t : Int × Int,AV.relL YF (No t) cs:=by
  match cs,hl with
  | [a, b], _ =>
    have c21 : Tryz.prog.cellsOf 21 = 1:=by kernel_rfl
    obtain ⟨f0,y0,h0,_⟩:=Zb Tryz.underlying31 h 0 rfl
    obtain ⟨f1,y1,h1,_⟩:=Zb Tryz.underlying31 h 1 rfl
    have h0 : DataW.trod enc Tryz.prog W base (fun _=>true) hd f0 21 (([a,b].drop 0).take (Tryz.prog.cellsOf 21)) = some y0:=h0
    have h1 : DataW.trod enc Tryz.prog W base (fun _=>true) hd f1 21 (([a,b].drop 1).take (Tryz.prog.cellsOf 21)) = some y1:=h1
    rw [c21] at h0 h1
    obtain ⟨n,rfl⟩:=Xu Tryz.underlying21 h0
    obtain ⟨m,rfl⟩:=Xu Tryz.underlying21 h1
    exact ⟨(n,m),AV.relL_cons_cons.2 ⟨by simp only [AV.rel],AV.relL_cons_cons.2 ⟨by simp only [AV.rel],AV.relL_nil.2 rfl⟩⟩⟩
theorem el_wr (fuel : Nat) (cs : List Value) (y : DataW H' × List MemPlace) (hl : cs.length = 3) (h : Tr' enc W base hd fuel 65 cs y) : ∃ t : List UInt8 × List UInt8 × Bool,AV.relL YF (wrc t) cs:=by
  match cs,hl with
  | [a, b, c], _ =>
    have c9 : Tryz.prog.cellsOf 9 = 1:=by kernel_rfl
    have c4 : Tryz.prog.cellsOf 4 = 1:=by kernel_rfl
    obtain ⟨f0,y0,h0,_⟩:=Zb Tryz.underlying65 h 0 rfl
    obtain ⟨f1,y1,h1,_⟩:=Zb Tryz.underlying65 h 1 rfl
    obtain ⟨f2,y2,h2,_⟩:=Zb Tryz.underlying65 h 2 rfl
    have h0 : DataW.trod enc Tryz.prog W base (fun _=>true) hd f0 9 (([a,b,c].drop 0).take (Tryz.prog.cellsOf 9)) = some y0:=h0
    have h1 : DataW.trod enc Tryz.prog W base (fun _=>true) hd f1 9 (([a,b,c].drop 1).take (Tryz.prog.cellsOf 9)) = some y1:=h1
    have h2 : DataW.trod enc Tryz.prog W base (fun _=>true) hd f2 4 (([a,b,c].drop 2).take (Tryz.prog.cellsOf 4)) = some y2:=h2
    rw [c9] at h0 h1
    rw [c4] at h2
    obtain ⟨s,rfl,_⟩:=V8 Tryz.underlying9 h0
    obtain ⟨s',rfl,_⟩:=V8 Tryz.underlying9 h1
    obtain ⟨d,rfl⟩:=trod_bool Tryz.underlying4 h2
    exact ⟨(s.data.toList,s'.data.toList,d),AV.relL_cons_cons.2 ⟨by simp only [AV.rel]; exact ⟨s,rfl,rfl⟩,AV.relL_cons_cons.2 ⟨by simp only [AV.rel]; exact ⟨s',rfl,rfl⟩,AV.relL_cons_cons.2 ⟨by simp only [AV.rel],AV.relL_nil.2 rfl⟩⟩⟩⟩
end
theorem reach_room {n : Nat} (h : n * Tryz.prog.bytesOf 3 ≤ reachBytes) : n * 8 ≤ QR:=by
  have e : Tryz.prog.bytesOf 3 = 8:=by kernel_rfl
  rw [e] at h
  exact Nat.le_trans h (by unfold reachBytes QR; decide)
end Go.Proofs.YtodlaigjjknpkaaGreatDoor
