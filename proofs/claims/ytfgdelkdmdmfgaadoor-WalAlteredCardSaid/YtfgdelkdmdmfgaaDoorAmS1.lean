import Derived.Test.YtfgdelkdmdmfgaaDoorAmS0
noncomputable section
namespace Go.Proofs.YtfgdelkdmdmfgaaDoor
open Go Go.Am
set_option linter.all false
def g60':Fun:=fun l h k=>match l with
  | [.ptr b o,n]=>ck (Nat.ble h.base b) (g60 [.ptr b o,n] h fun r h1=>ZX (h1.get b) (fun m t cs=>op' (Q8 cs (Nat.succ o)) fun s=>Yy b (.cells m t (XB cs (Nat.succ o) (cutS s))) h1 fun h2=>k r h2) fun _ _ _ _=>False)
  | _=>False
theorem g60'_ok : Qt Tryd.prog 60 g60' := g60_ok.up0.weak.imp fun l h k q => by
  unfold g60' at q
  split at q
  · rename_i b o n
    rw [QN,Qk] at q
    obtain ⟨hb,q⟩:=q
    refine ⟨hb,_,q,fun r h1 q=>?_⟩
    rw [Zj] at q
    rcases q with ⟨m,t,cs,hg,q⟩ | ⟨_,_,_,_,_,q⟩
    · rw [QX] at q
      obtain ⟨s,hs,q⟩:=q
      rw [ZK] at q
      obtain ⟨h2,p2,q⟩:=q
      obtain ⟨_,_,n2,b2,g2⟩:=Ue p2
      refine ⟨h2,⟨n2,b2,fun id e=>by rw [g2,if_neg e],m,t,cs,_,hg,by rw [g2,if_pos rfl],fun i a' ha=>?_⟩,q⟩
      rw [YY] at ha
      rw [Vn] at hs
      by_cases e:Nat.succ o=i
      · subst e
        have hl:Nat.succ o < cs.length:=by
          rw [List.getElem?_eq_some_iff] at hs;exact hs.1
        rw [List.getElem?_set_self hl] at ha
        injection ha with ha
        exact ⟨s,hs,.inr ha.symm⟩
      · rw [List.getElem?_set_ne e] at ha
        exact ⟨a',ha,.inl rfl⟩
    · exact q.elim
  · exact q.elim
end Go.Proofs.YtfgdelkdmdmfgaaDoor
namespace Go.Proofs.YtfgdelkdmdmfgaaDoor
open Go Go.Am
set_option maxRecDepth 100000
set_option linter.all false
def g61:Fun:=Wb ty (gam J0 [(74,g74)]) Tryd.f61
theorem g61_ok:Qt Tryd.prog 61 g61:=Ya QD QE (Qv (J:=J0) (Qc QeJ (Ql Qn))) Tryd.func61 (fun args w=>by simp)
def g63:Fun:=Wb ty (gam J0 []) Tryd.f63
theorem g63_ok:Qt Tryd.prog 63 g63:=Ya QD QE (Qv (J:=J0) (Ql Qn)) Tryd.func63 (fun args w=>by simp)
def g42:Fun:=Wb ty (gam J0 [(58,g58),(59,g59),(60,g60'),(61,g61),(63,g63)]) Tryd.f42
theorem QeU:Qt Tryd.prog 42 g42:=Ya QD QE (Qv (J:=J0) (Qc g58_ok (Qc g59_ok (Qc g60'_ok (Qc g61_ok (Qc g63_ok (Ql Qn))))))) Tryd.func42 (fun args w=>by simp)
def Qeg (J:Qh) (c41:Int→H→(Str→H→Prop)→Prop) (c42:Fun) (a0:Int) (h:H) (k:Str→Int→H→Prop):Prop :=
fB (ltI a0 (Int.ofNat 1)) fun b1=>
J.jn (fun v2 h3=>
J.jn (fun v5 h6=>
Q3 (AV.bool b1) (AV.bool true) v5 fun b10=>
br b10 (
k ⟨0,0⟩ (Int.ofNat 2) h6) (
c41 a0 h6 fun s12 h11=>
fI (Qd .i64 (Int.sub (Int.ofNat 6) (Int.ofNat s12.len))) fun x13=>
c42 [(AV.str ⟨1,48⟩),(AV.int .i64 x13)] h11 fun v14 h15=>
asS v14 fun s16=>
ck (Nat.ble (Nat.add (⟨4,2002873389⟩:Str).len s16.len) 9223372036854775807) (fS (Str.cat (⟨4,2002873389⟩:Str) s16) fun s17=>
ck (Nat.ble (Nat.add s17.len s12.len) 9223372036854775807) (fS (Str.cat s17 s12) fun s18=>
k s18 (Int.ofNat 0) h15)))) fun j7=>
br b1 (
j7 Qb h3) (
asI .i64 v2 fun x8=>
fB (ltI (Int.ofNat 999999) x8) fun b9=>
j7 (AV.bool b9) h3)) fun j4=>
br b1 (
j4 Qb h) (
j4 (AV.int .i64 a0) h)
def s24:Int→H→(Str→Int→H→Prop)→Prop:=Qeg J0 s41 g42
def w24 (c:Int→H→(Str→Int→H→Prop)→Prop):Fun:=fun xs h k=>arg xs fun a0 xs=>QY xs <| asI .i64 a0 fun a0=>c a0 h fun r0 r1 h=>k (.tuple [(.str r0),(.int .i64 r1)]) h
theorem Qef (J:Qh) (c41:Int→H→(Str→H→Prop)→Prop) (c42:Fun) (a0:Int) (h:H) (k:AV→H→Prop):Zl ty (gam J [(41,w41 c41),(42,c42)]) Tryd.f24 [(.int .i64 a0)] h k=Qeg J c41 c42 a0 h (fun r0 r1 h=>k (.tuple [(.str r0),(.int .i64 r1)]) h):=by kernel_rfl
def g24:Fun:=w24 s24
theorem QaG:Qt Tryd.prog 24 g24:=(QA QD QE (Qv (J:=J0) (Qc QeV (Qc QeU (Ql Qn)))) Tryd.func24 (fun args w=>by simp)).imp fun xs h k e0=>by
  obtain ⟨a0,xs0,rfl,e1⟩:=Qf e0
  obtain ⟨rfl,e2⟩:=Qi e1
  obtain ⟨a0,rfl,e3⟩:=QC.1 e2
  exact (Qef J0 s41 g42 a0 h k).mpr e3
def Qak (J:Qh) (c10:AV→Str→H→(AV→Int→H→Prop)→Prop) (c24:Int→H→(Str→Int→H→Prop)→Prop) (a0:AV) (a1:Int) (h:H) (k:Bool→H→Prop):Prop :=
c24 a1 h fun s2 x3 h1=>
fB (Bool.not (eqI x3 (Int.ofNat 0))) fun b4=>
br b4 (
k false h1) (
c10 a0 s2 h1 fun v6 x7 h5=>
fB (eqI x7 (Int.ofNat 0)) fun b8=>
k b8 h5)
def s18:AV→Int→H→(Bool→H→Prop)→Prop:=Qak J0 s10 s24
def w18 (c:AV→Int→H→(Bool→H→Prop)→Prop):Fun:=fun xs h k=>arg xs fun a0 xs=>arg xs fun a1 xs=>QY xs <| asI .i64 a1 fun a1=>c a0 a1 h fun r0 h=>k (.bool r0) h
theorem Qem (J:Qh) (c10:AV→Str→H→(AV→Int→H→Prop)→Prop) (c24:Int→H→(Str→Int→H→Prop)→Prop) (a0:AV) (a1:Int) (h:H) (k:AV→H→Prop):Zl ty (gam J [(10,w10 c10),(24,w24 c24)]) Tryd.f18 [a0,(.int .i64 a1)] h k=Qak J c10 c24 a0 a1 h (fun r0 h=>k (.bool r0) h):=by kernel_rfl
def g18:Fun:=w18 s18
theorem g18_ok:Qt Tryd.prog 18 g18:=(QA QD QE (Qv (J:=J0) (Qc XL (Qc QaG (Ql Qn)))) Tryd.func18 (fun args w=>by simp)).imp fun xs h k e0=>by
  obtain ⟨a0,xs0,rfl,e1⟩:=Qf e0
  obtain ⟨a1,xs1,rfl,e2⟩:=Qf e1
  obtain ⟨rfl,e3⟩:=Qi e2
  obtain ⟨a1,rfl,e4⟩:=QC.1 e3
  exact (Qem J0 s10 s24 a0 a1 h k).mpr e4
def J1 (J:Qh) (a0:Int) (a1:AV) (h:H) (k:Int→H→Prop):Prop :=
op' (aUn .xor (AV.int .u32 a0)) fun v1=>
asI .u32 v1 fun x2=>
ZH a1 fun x3=>
J.lp (α:=AV × AV × AV × AV × Unit) (fun r7 v4 d5 h6=>
asI .i64 v4.2.2.2.1 fun x8=>
asI .i64 v4.2.2.1 fun x9=>
fB (ltI x8 x9) fun b10=>
br b10 (
ixK 1 v4.2.1 v4.2.2.2.1 fun p11=>
ldI .u8 p11 h6 fun x12=>
fI (Qd .u32 x12) fun x13=>
asI .u32 v4.1 fun x14=>
fI (VF .u32 x14 x13) fun x15=>
J.lp (α:=AV × AV × AV × AV × AV × Unit) (fun r19 v16 d17 h18=>
asI .i64 v16.2.2.2.2.1 fun x20=>
fB (ltI x20 (Int.ofNat 8)) fun b21=>
br b21 (
J.jd (α:=AV × AV × AV × AV × AV × Unit) (fun v22 d23 h24=>
asI .i64 v22.2.2.2.2.1 fun x26=>
fI (Qd .i64 (Int.add x26 (Int.ofNat 1))) fun x27=>
r19 (v22.1,v22.2.1,v22.2.2.1,v22.2.2.2.1,(AV.int .i64 x27),()) d23 h24) fun j25=>
asI .u32 v16.1 fun x28=>
fI (DM .u32 x28 (Int.ofNat 1)) fun x29=>
asI .u32 v16.1 fun x30=>
fI (Ve x30 (Y2 1 (IntKind.bits .u32))) fun x31=>
fB (eqI x29 (Int.ofNat 1)) fun b32=>
br b32 (
fI (VF .u32 x31 (Int.ofNat 2197175160)) fun x33=>
j25 ((AV.int .u32 x33),v16.2.1,v16.2.2.1,v16.2.2.2.1,v16.2.2.2.2.1,()) d17 h18) (
j25 ((AV.int .u32 x31),v16.2.1,v16.2.2.1,v16.2.2.2.1,v16.2.2.2.2.1,()) d17 h18)) (
asI .i64 v16.2.2.2.1 fun x34=>
fI (Qd .i64 (Int.add x34 (Int.ofNat 1))) fun x35=>
r7 (v16.1,v16.2.1,v16.2.2.1,(AV.int .i64 x35),()) d17 h18)) ((AV.int .u32 x15),v4.2.1,v4.2.2.1,v4.2.2.2.1,(AV.int .i64 (Int.ofNat 0)),()) d5 h6) (
op' (aUn .xor v4.1) fun v36=>
asI .u32 v36 fun x37=>
Qu (gam J []) d5 h6 fun h38=>
k x37 h38)) ((AV.int .u32 x2),a1,(AV.int .i64 (Int.ofNat x3)),(AV.int .i64 (Int.ofNat 0)),()) [] h
def s69:Int→AV→H→(Int→H→Prop)→Prop:=J1 J0
def w69 (c:Int→AV→H→(Int→H→Prop)→Prop):Fun:=fun xs h k=>arg xs fun a0 xs=>arg xs fun a1 xs=>QY xs <| asI .u32 a0 fun a0=>c a0 a1 h fun r0 h=>k (.int .u32 r0) h
theorem s69_eq (J:Qh) (a0:Int) (a1:AV) (h:H) (k:AV→H→Prop):Zl ty (gam J []) Tryd.f69 [(.int .u32 a0),a1] h k=J1 J  a0 a1 h (fun r0 h=>k (.int .u32 r0) h):=by kernel_rfl
def g69:Fun:=w69 s69
theorem g69_ok:Qt Tryd.prog 69 g69:=(QA QD QE (Qv (J:=J0) (Ql Qn)) Tryd.func69 (fun args w=>by simp)).imp fun xs h k e0=>by
  obtain ⟨a0,xs0,rfl,e1⟩:=Qf e0
  obtain ⟨a1,xs1,rfl,e2⟩:=Qf e1
  obtain ⟨rfl,e3⟩:=Qi e2
  obtain ⟨a0,rfl,e4⟩:=QC.1 e3
  exact (s69_eq J0  a0 a1 h k).mpr e4
def Xj (J:Qh) (c69:Int→AV→H→(Int→H→Prop)→Prop) (a0:AV) (h:H) (k:Int→H→Prop):Prop :=
c69 (Int.ofNat 0) a0 h fun x2 h1=>
k x2 h1
def s56:AV→H→(Int→H→Prop)→Prop:=Xj J0 s69
def w56 (c:AV→H→(Int→H→Prop)→Prop):Fun:=fun xs h k=>arg xs fun a0 xs=>QY xs <| c a0 h fun r0 h=>k (.int .u32 r0) h
theorem s56_eq (J:Qh) (c69:Int→AV→H→(Int→H→Prop)→Prop) (a0:AV) (h:H) (k:AV→H→Prop):Zl ty (gam J [(69,w69 c69)]) Tryd.f56 [a0] h k=Xj J c69 a0 h (fun r0 h=>k (.int .u32 r0) h):=by kernel_rfl
def g56:Fun:=w56 s56
theorem g56_ok:Qt Tryd.prog 56 g56:=(QA QD QE (Qv (J:=J0) (Qc g69_ok (Ql Qn))) Tryd.func56 (fun args w=>by simp)).imp fun xs h k e0=>by
  obtain ⟨a0,xs0,rfl,e1⟩:=Qf e0
  obtain ⟨rfl,e2⟩:=Qi e1
  exact (s56_eq J0 s69 a0 h k).mpr e2
def Xk (J:Qh) (c56:AV→H→(Int→H→Prop)→Prop) (a0:AV) (h:H) (k:AV→H→Prop):Prop :=
apB (.slice 5) 5 AV.nils a0 h fun v1 h2=>
c56 a0 h2 fun x4 h3=>
J.lp (α:=AV × AV × AV × Unit) (fun r8 v5 d6 h7=>
asI .i64 v5.2.2.1 fun x9=>
fB (ltI x9 (Int.ofNat 4)) fun b10=>
br b10 (
asI .i64 v5.2.2.1 fun x11=>
fI (Qd .i64 (Int.mul (Int.ofNat 8) x11)) fun x12=>
asI .u32 v5.2.1 fun x13=>
YU (AV.int .i64 x12) fun n14=>
fI (Ve x13 (Y2 n14 (IntKind.bits .u32))) fun x15=>
fI (Qd .u8 x15) fun x16=>
op' (Wd true 5 [(AV.int .u8 x16)]) fun k19=>
Qz k19 h7 fun n17 h18=>
apB (.slice 5) 5 v5.1 (AV.slice n17 0 1 1 1 true) h18 fun v20 h21=>
asI .i64 v5.2.2.1 fun x22=>
fI (Qd .i64 (Int.add x22 (Int.ofNat 1))) fun x23=>
r8 (v20,v5.2.1,(AV.int .i64 x23),()) d6 h21) (
Qu (gam J [(56,w56 c56)]) d6 h7 fun h24=>
k v5.1 h24)) (v1,(AV.int .u32 x4),(AV.int .i64 (Int.ofNat 0)),()) [] h3
def s40:AV→H→(AV→H→Prop)→Prop:=Xk J0 s56
def w40 (c:AV→H→(AV→H→Prop)→Prop):Fun:=fun xs h k=>arg xs fun a0 xs=>QY xs <| c a0 h fun r0 h=>k r0 h
theorem s40_eq (J:Qh) (c56:AV→H→(Int→H→Prop)→Prop) (a0:AV) (h:H) (k:AV→H→Prop):Zl ty (gam J [(56,w56 c56)]) Tryd.f40 [a0] h k=Xk J c56 a0 h (fun r0 h=>k r0 h):=by kernel_rfl
def g40:Fun:=w40 s40
theorem QeW:Qt Tryd.prog 40 g40:=(QA QD QE (Qv (J:=J0) (Qc g56_ok (Ql Qn))) Tryd.func40 (fun args w=>by simp)).imp fun xs h k e0=>by
  obtain ⟨a0,xs0,rfl,e1⟩:=Qf e0
  obtain ⟨rfl,e2⟩:=Qi e1
  exact (s40_eq J0 s56 a0 h k).mpr e2
def G9 (J:Qh) (c40:AV→H→(AV→H→Prop)→Prop) (a0:AV) (h:H) (k:AV→Bool→H→Prop):Prop :=
ZH a0 fun x1=>
fI (Qd .i64 (Int.sub (Int.ofNat x1) (Int.ofNat 4))) fun x2=>
fB (ltI x2 (Int.ofNat 0)) fun b3=>
J.jn (fun v4 h5=>
J.jn (fun v7 h8=>
J.jn (fun v10 h11=>
J.jn (fun v14 h15=>
J.jb (fun b17 v18=>
J.jn (fun v21 h22=>
ck (Bool.rec (motive:=fun _=>Bool) true (Zz (UH v14 h22) v18) b17) (
J.jb (fun b26 v27=>
J.jn (fun v30 h31=>
Q3 (AV.bool b3) (AV.bool true) v30 fun b36=>
br b36 (
k AV.nils false h31) (
slK 1 a0 none (some (AV.int .i64 x2)) fun v37=>
apB (.slice 5) 5 AV.nils v37 h31 fun v38 h39=>
k v38 true h39)) fun j32=>
br b3 (
j32 Qb h22) (
asS v27 fun s33=>
asS v18 fun s34=>
fB (Bool.not (Str.beq s33 s34)) fun b35=>
j32 (AV.bool b35) h22)) fun j28=>
br b3 (
j28 false Qb) (
Y1 v21 h22 fun s29=>
j28 true (AV.str s29)))) fun j23=>
br b3 (
j23 Qb h15) (
c40 v10 h15 fun v25 h24=>
j23 v25 h24)) fun j19=>
br b3 (
j19 false Qb) (
Y1 v14 h15 fun s20=>
j19 true (AV.str s20))) fun j16=>
br b3 (
j16 Qb h11) (
j16 a0 h11)) fun j12=>
br b3 (
j12 Qb h8) (
slK 1 v4 none (some v7) fun v13=>
j12 v13 h8)) fun j9=>
br b3 (
j9 Qb h5) (
j9 (AV.int .i64 x2) h5)) fun j6=>
br b3 (
j6 Qb h) (
j6 a0 h)
def s67:AV→H→(AV→Bool→H→Prop)→Prop:=G9 J0 s40
def w67 (c:AV→H→(AV→Bool→H→Prop)→Prop):Fun:=fun xs h k=>arg xs fun a0 xs=>QY xs <| c a0 h fun r0 r1 h=>k (.tuple [r0,(.bool r1)]) h
theorem s67_eq (J:Qh) (c40:AV→H→(AV→H→Prop)→Prop) (a0:AV) (h:H) (k:AV→H→Prop):Zl ty (gam J [(40,w40 c40)]) Tryd.f67 [a0] h k=G9 J c40 a0 h (fun r0 r1 h=>k (.tuple [r0,(.bool r1)]) h):=by kernel_rfl
def g67:Fun:=w67 s67
theorem QeK:Qt Tryd.prog 67 g67:=(QA QD QE (Qv (J:=J0) (Qc QeW (Ql Qn))) Tryd.func67 (fun args w=>by simp)).imp fun xs h k e0=>by
  obtain ⟨a0,xs0,rfl,e1⟩:=Qf e0
  obtain ⟨rfl,e2⟩:=Qi e1
  exact (s67_eq J0 s40 a0 h k).mpr e2
def g52:Fun:=Wb ty (gam J0 [(67,g67)]) Tryd.f52
theorem g52_ok:Qt Tryd.prog 52 g52:=Ya QD QE (Qv (J:=J0) (Qc QeK (Ql Qn))) Tryd.func52 (fun args w=>by simp)
def Qcc (J:Qh) (c52:Fun) (a0:AV) (h:H) (k:AV→Int→Int→H→Prop):Prop :=
J.jd (α:=AV × AV × Unit) (fun v1 d2 h3=>
Qu (gam J [(52,c52)]) d2 h3 fun h5=>
asI .i64 v1.2.1 fun x6=>
k v1.1 x6 (Int.ofNat 0) h5) fun j4=>
J.lp (α:=AV × AV × AV × Unit) (fun r10 v7 d8 h9=>
ZH v7.1 fun x11=>
asI .i64 v7.2.2.1 fun x12=>
fB (ltI x12 (Int.ofNat x11)) fun b13=>
br b13 (
slK 1 v7.1 (some v7.2.2.1) none fun v14=>
c52 [v14] h9 fun v15 h16=>
asTup v15 fun l17=>
op' (Q8 l17 0) fun v18=>
asTup v15 fun l19=>
op' (Q8 l19 1) fun v20=>
asI .i64 v20 fun x21=>
asTup v15 fun l22=>
op' (Q8 l22 2) fun v23=>
asI .i64 v23 fun x24=>
fB (eqI x24 (Int.ofNat 0)) fun b25=>
br b25 (
ck (ZB v18) (Qz (.cells false 39 [v18]) h16 fun n26 h27=>
apC 39 1 24 v7.2.1 (AV.slice n26 0 1 1 1 true) h27 fun v28 h29=>
asI .i64 v7.2.2.1 fun x30=>
fI (Qd .i64 (Int.add x30 x21)) fun x31=>
ZH v7.1 fun x32=>
fB (eqI x31 (Int.ofNat x32)) fun b33=>
br b33 (
j4 (v28,(AV.int .i64 x31),()) d8 h29) (
r10 (v7.1,v28,(AV.int .i64 x31),()) d8 h29))) (
Qu (gam J [(52,c52)]) d8 h16 fun h34=>
asI .i64 v7.2.2.1 fun x35=>
k v7.2.1 x35 x24 h34)) (
j4 (v7.2.1,v7.2.2.1,()) d8 h9)) (a0,AV.nils,(AV.int .i64 (Int.ofNat 0)),()) [] h
def s34:AV→H→(AV→Int→Int→H→Prop)→Prop:=Qcc J0 g52
def w34 (c:AV→H→(AV→Int→Int→H→Prop)→Prop):Fun:=fun xs h k=>arg xs fun a0 xs=>QY xs <| c a0 h fun r0 r1 r2 h=>k (.tuple [r0,(.int .i64 r1),(.int .i64 r2)]) h
theorem Qee (J:Qh) (c52:Fun) (a0:AV) (h:H) (k:AV→H→Prop):Zl ty (gam J [(52,c52)]) Tryd.f34 [a0] h k=Qcc J c52 a0 h (fun r0 r1 r2 h=>k (.tuple [r0,(.int .i64 r1),(.int .i64 r2)]) h):=by kernel_rfl
def g34:Fun:=w34 s34
theorem g34_ok:Qt Tryd.prog 34 g34:=(QA QD QE (Qv (J:=J0) (Qc g52_ok (Ql Qn))) Tryd.func34 (fun args w=>by simp)).imp fun xs h k e0=>by
  obtain ⟨a0,xs0,rfl,e1⟩:=Qf e0
  obtain ⟨rfl,e2⟩:=Qi e1
  exact (Qee J0 g52 a0 h k).mpr e2
def Nb (J:Qh) (a0:AV) (h:H) (k:Bool→H→Prop):Prop :=
Go.Am.asAgg a0 fun l3=>
Qz (.cells false 48 l3) h fun n1 h2=>
ldS (AV.ptr n1 0) h2 fun s4=>
fB (Bool.not (Str.beq s4 (⟨0,0⟩:Str))) fun b5=>
J.jn (fun v6 h7=>
J.jn (fun v9 h10=>
J.jn (fun v13 h14=>
J.jn (fun v17 h18=>
Q3 (AV.bool b5) v17 (AV.bool false) fun b22=>
J.jn (fun v23 h24=>
J.jn (fun v26 h27=>
J.jn (fun v30 h31=>
J.jn (fun v34 h35=>
Q3 (AV.bool b22) v34 (AV.bool false) fun b39=>
J.jn (fun v40 h41=>
J.jn (fun v43 h44=>
J.jn (fun v47 h48=>
J.jn (fun v52 h53=>
J.jn (fun v55 h56=>
J.jn (fun v58 h59=>
J.jn (fun v62 h63=>
J.jn (fun v67 h68=>
Q3 (AV.bool b39) v67 (AV.bool false) fun b71=>
k b71 h68) fun j69=>
br b39 (
Q3 v52 (AV.bool true) v62 fun b70=>
j69 (AV.bool b70) h63) (
j69 Qb h63)) fun j64=>
ZW v52 (fun b72=>
br b72 (
j64 Qb h59) (
asS v58 fun s65=>
fB (Str.beq s65 (⟨0,0⟩:Str)) fun b66=>
j64 (AV.bool b66) h59)) (
j64 Qb h59)) fun j60=>
ZW v52 (fun b73=>
br b73 (
j60 Qb h56) (
ldS v55 h56 fun s61=>
j60 (AV.str s61) h56)) (
j60 Qb h56)) fun j57=>
ZW v52 (fun b74=>
br b74 (
j57 Qb h53) (
j57 (AV.ptr n1 1) h53)) (
j57 Qb h53)) fun j54=>
br b39 (
j54 v47 h48) (
j54 Qb h48)) fun j49=>
br b39 (
asB v43 fun b50=>
fB (Bool.not b50) fun b51=>
j49 (AV.bool b51) h44) (
j49 Qb h44)) fun j45=>
br b39 (
ldB v40 h41 fun b46=>
j45 (AV.bool b46) h41) (
j45 Qb h41)) fun j42=>
br b39 (
j42 (AV.ptr n1 2) h35) (
j42 Qb h35)) fun j36=>
br b22 (
asI .i64 v30 fun x37=>
fB (Bool.not (ltI (Int.ofNat 4096) x37)) fun b38=>
j36 (AV.bool b38) h31) (
j36 Qb h31)) fun j32=>
br b22 (
asS v26 fun s33=>
j32 (AV.int .i64 (Int.ofNat s33.len)) h27) (
j32 Qb h27)) fun j28=>
br b22 (
ldS v23 h24 fun s29=>
j28 (AV.str s29) h24) (
j28 Qb h24)) fun j25=>
br b22 (
j25 (AV.ptr n1 1) h18) (
j25 Qb h18)) fun j19=>
br b5 (
asI .i64 v13 fun x20=>
fB (Bool.not (ltI (Int.ofNat 512) x20)) fun b21=>
j19 (AV.bool b21) h14) (
j19 Qb h14)) fun j15=>
br b5 (
asS v9 fun s16=>
j15 (AV.int .i64 (Int.ofNat s16.len)) h10) (
j15 Qb h10)) fun j11=>
br b5 (
ldS v6 h7 fun s12=>
j11 (AV.str s12) h7) (
j11 Qb h7)) fun j8=>
br b5 (
j8 (AV.ptr n1 0) h2) (
j8 Qb h2)
def s28:AV→H→(Bool→H→Prop)→Prop:=Nb J0
def w28 (c:AV→H→(Bool→H→Prop)→Prop):Fun:=fun xs h k=>arg xs fun a0 xs=>QY xs <| c a0 h fun r0 h=>k (.bool r0) h
theorem s28_eq (J:Qh) (a0:AV) (h:H) (k:AV→H→Prop):Zl ty (gam J []) Tryd.f28 [a0] h k=Nb J  a0 h (fun r0 h=>k (.bool r0) h):=by kernel_rfl
def g28:Fun:=w28 s28
theorem g28_ok:Qt Tryd.prog 28 g28:=(QA QD QE (Qv (J:=J0) (Ql Qn)) Tryd.func28 (fun args w=>by simp)).imp fun xs h k e0=>by
  obtain ⟨a0,xs0,rfl,e1⟩:=Qf e0
  obtain ⟨rfl,e2⟩:=Qi e1
  exact (s28_eq J0  a0 h k).mpr e2
def s9G (J:Qh) (c28:AV→H→(Bool→H→Prop)→Prop) (a0:AV) (h:H) (k:Int→H→Prop):Prop :=
ZH a0 fun x1=>
fB (eqI (Int.ofNat x1) (Int.ofNat 0)) fun b2=>
br b2 (
k (Int.ofNat 2) h) (
ZH a0 fun x3=>
fB (ltI (Int.ofNat 64) (Int.ofNat x3)) fun b4=>
br b4 (
k (Int.ofNat 3) h) (
ZH a0 fun x5=>
J.lp (α:=AV × AV × AV × AV × Unit) (fun r9 v6 d7 h8=>
asI .i64 v6.2.2.2.1 fun x10=>
asI .i64 v6.2.2.1 fun x11=>
fB (ltI x10 x11) fun b12=>
br b12 (
ixK 3 v6.2.1 v6.2.2.2.1 fun p13=>
ldN 3 p13 h8 fun l14=>
Qz (.cells false 48 [(.str ⟨0,0⟩),(.str ⟨0,0⟩),(.bool false)]) h8 fun n15 h16=>
stN 3 (AV.ptr n15 0) l14 h16 fun h17=>
ldN 3 (AV.ptr n15 0) h17 fun l18=>
c28 (AV.agg l18) h17 fun b20 h19=>
fB (Bool.not b20) fun b21=>
br b21 (
Qu (gam J [(28,w28 c28)]) d7 h19 fun h22=>
k (Int.ofNat 2) h22) (
asI .i64 v6.2.2.2.1 fun x23=>
fI (Qd .i64 (Int.add x23 (Int.ofNat 1))) fun x24=>
r9 (v6.1,v6.2.1,v6.2.2.1,(AV.int .i64 x24),()) d7 h19)) (
Qz (.smap []) h8 fun n25 h26=>
ZH v6.1 fun x27=>
J.lp (α:=AV × AV × AV × AV × Unit) (fun r31 v28 d29 h30=>
asI .i64 v28.2.2.2.1 fun x32=>
asI .i64 v28.2.2.1 fun x33=>
fB (ltI x32 x33) fun b34=>
br b34 (
ixK 3 v28.2.1 v28.2.2.2.1 fun p35=>
ldN 3 p35 h30 fun l36=>
Qz (.cells false 48 [(.str ⟨0,0⟩),(.str ⟨0,0⟩),(.bool false)]) h30 fun n37 h38=>
stN 3 (AV.ptr n37 0) l36 h38 fun h39=>
ldS (AV.ptr n37 0) h39 fun s40=>
op' (Q5 ty 9 75 true v28.1 (AV.str s40) h39) fun v41=>
asTup v41 fun l42=>
op' (Q8 l42 0) fun v43=>
asTup v41 fun l44=>
op' (Q8 l44 1) fun v45=>
asB v45 fun b46=>
Qz (.cells false 75 []) h39 fun n47 h48=>
Go.Am.asAgg v43 fun l50=>
stN 0 (AV.ptr n47 0) l50 h48 fun h49=>
br b46 (
Qu (gam J [(28,w28 c28)]) d29 h49 fun h51=>
k (Int.ofNat 9) h51) (
ldS (AV.ptr n37 0) h49 fun s52=>
op' (Y3 ty 9 v28.1 (AV.str s52) (AV.agg []) h49) fun k53=>
Yy k53.1 k53.2 h49 fun h54=>
asI .i64 v28.2.2.2.1 fun x55=>
fI (Qd .i64 (Int.add x55 (Int.ofNat 1))) fun x56=>
r31 (v28.1,v28.2.1,v28.2.2.1,(AV.int .i64 x56),()) d29 h54)) (
Qu (gam J [(28,w28 c28)]) d29 h30 fun h57=>
k (Int.ofNat 0) h57)) ((AV.map n25),v6.1,(AV.int .i64 (Int.ofNat x27)),(AV.int .i64 (Int.ofNat 0)),()) d7 h26)) (a0,a0,(AV.int .i64 (Int.ofNat x5)),(AV.int .i64 (Int.ofNat 0)),()) [] h))
def s9:AV→H→(Int→H→Prop)→Prop:=s9G J0 s28
def w9 (c:AV→H→(Int→H→Prop)→Prop):Fun:=fun xs h k=>arg xs fun a0 xs=>QY xs <| c a0 h fun r0 h=>k (.int .i64 r0) h
theorem s9_eq (J:Qh) (c28:AV→H→(Bool→H→Prop)→Prop) (a0:AV) (h:H) (k:AV→H→Prop):Zl ty (gam J [(28,w28 c28)]) Tryd.f9 [a0] h k=s9G J c28 a0 h (fun r0 h=>k (.int .i64 r0) h):=by kernel_rfl
def g9:Fun:=w9 s9
theorem QbI:Qt Tryd.prog 9 g9:=(QA QD QE (Qv (J:=J0) (Qc g28_ok (Ql Qn))) Tryd.func9 (fun args w=>by simp)).imp fun xs h k e0=>by
  obtain ⟨a0,xs0,rfl,e1⟩:=Qf e0
  obtain ⟨rfl,e2⟩:=Qi e1
  exact (s9_eq J0 s28 a0 h k).mpr e2
def Gs (J:Qh) (a0:AV) (h:H) (k:Int→Int→Int→H→Prop):Prop :=
J.jd (α:=Unit) (fun v1 d2 h3=>
Qu (gam J []) d2 h3 fun h5=>
k (Int.ofNat 0) (Int.ofNat 0) (Int.ofNat 5) h5) fun j4=>
J.lp (α:=AV × AV × AV × Unit) (fun r9 v6 d7 h8=>
ZH v6.1 fun x10=>
asI .i64 v6.2.2.1 fun x11=>
fB (ltI x11 (Int.ofNat x10)) fun b12=>
J.jn (fun v13 h14=>
J.jn (fun v16 h17=>
Q3 (AV.bool b12) v16 (AV.bool false) fun b21=>
br b21 (
ixK 1 v6.1 v6.2.2.1 fun p22=>
ldI .u8 p22 h17 fun x23=>
asI .i64 v6.2.2.1 fun x24=>
fB (eqI x24 (Int.ofNat 9)) fun b25=>
J.jn (fun v26 h27=>
J.jn (fun v29 h30=>
Q3 (AV.bool b25) v29 (AV.bool false) fun b34=>
J.jn (fun v35 h36=>
J.jn (fun v38 h39=>
J.jn (fun v43 h44=>
J.jn (fun v46 h47=>
J.jn (fun v49 h50=>
J.jn (fun v54 h55=>
Q3 (AV.bool b34) (AV.bool true) v54 fun b58=>
br b58 (
j4 (()) d7 h55) (
fI (ND .u8 x23 (Int.ofNat 128)) fun x59=>
fI (Qd .u64 x59) fun x60=>
asI .i64 v6.2.2.1 fun x61=>
fI (Qd .i64 (Int.mul (Int.ofNat 7) x61)) fun x62=>
YU (AV.int .i64 x62) fun n63=>
fI (VQ .u64 x60 n63) fun x64=>
asI .u64 v6.2.1 fun x65=>
fI (Uv .u64 x65 x64) fun x66=>
asI .i64 v6.2.2.1 fun x67=>
fI (Qd .i64 (Int.add x67 (Int.ofNat 1))) fun x68=>
fB (ltI x23 (Int.ofNat 128)) fun b69=>
br b69 (
Qu (gam J []) d7 h55 fun h70=>
k x66 x68 (Int.ofNat 0) h70) (
r9 (v6.1,(AV.int .u64 x66),(AV.int .i64 x68),()) d7 h55))) fun j56=>
br b34 (
j56 Qb h50) (
Q3 v43 v49 (AV.bool false) fun b57=>
j56 (AV.bool b57) h50)) fun j51=>
ZW v43 (fun b71=>
br b71 (
asI .u8 v46 fun x52=>
fB (eqI x52 (Int.ofNat 0)) fun b53=>
j51 (AV.bool b53) h47) (
j51 Qb h47)) (
j51 Qb h47)) fun j48=>
ZW v43 (fun b72=>
br b72 (
j48 (AV.int .u8 x23) h44) (
j48 Qb h44)) (
j48 Qb h44)) fun j45=>
br b34 (
j45 Qb h39) (
j45 v38 h39)) fun j40=>
br b34 (
j40 Qb h36) (
asI .i64 v35 fun x41=>
fB (ltI (Int.ofNat 0) x41) fun b42=>
j40 (AV.bool b42) h36)) fun j37=>
br b34 (
j37 Qb h30) (
j37 v6.2.2.1 h30)) fun j31=>
br b25 (
asI .u8 v26 fun x32=>
fB (ltI (Int.ofNat 1) x32) fun b33=>
j31 (AV.bool b33) h27) (
j31 Qb h27)) fun j28=>
br b25 (
j28 (AV.int .u8 x23) h17) (
j28 Qb h17)) (
j4 (()) d7 h17)) fun j18=>
br b12 (
asI .i64 v13 fun x19=>
fB (ltI x19 (Int.ofNat 10)) fun b20=>
j18 (AV.bool b20) h14) (
j18 Qb h14)) fun j15=>
br b12 (
j15 v6.2.2.1 h8) (
j15 Qb h8)) (a0,(AV.int .u64 (Int.ofNat 0)),(AV.int .i64 (Int.ofNat 0)),()) [] h
def s76:AV→H→(Int→Int→Int→H→Prop)→Prop:=Gs J0
def w76 (c:AV→H→(Int→Int→Int→H→Prop)→Prop):Fun:=fun xs h k=>arg xs fun a0 xs=>QY xs <| c a0 h fun r0 r1 r2 h=>k (.tuple [(.int .u64 r0),(.int .i64 r1),(.int .i64 r2)]) h
theorem s76_eq (J:Qh) (a0:AV) (h:H) (k:AV→H→Prop):Zl ty (gam J []) Tryd.f76 [a0] h k=Gs J  a0 h (fun r0 r1 r2 h=>k (.tuple [(.int .u64 r0),(.int .i64 r1),(.int .i64 r2)]) h):=by kernel_rfl
def g76:Fun:=w76 s76
theorem g76_ok:Qt Tryd.prog 76 g76:=(QA QD QE (Qv (J:=J0) (Ql Qn)) Tryd.func76 (fun args w=>by simp)).imp fun xs h k e0=>by
  obtain ⟨a0,xs0,rfl,e1⟩:=Qf e0
  obtain ⟨rfl,e2⟩:=Qi e1
  exact (s76_eq J0  a0 h k).mpr e2
def G8 (J:Qh) (c76:AV→H→(Int→Int→Int→H→Prop)→Prop) (a0:AV) (a1:Int) (h:H) (k:Int→Int→Int→H→Prop):Prop :=
c76 a0 h fun x2 x3 x4 h1=>
fB (Bool.not (eqI x4 (Int.ofNat 0))) fun b5=>
J.jn (fun v6 h7=>
J.jn (fun v9 h10=>
Q3 (AV.bool b5) (AV.bool true) v9 fun b14=>
J.jn (fun v15 h16=>
J.jn (fun v18 h19=>
J.jn (fun v21 h22=>
J.jn (fun v26 h27=>
Q3 (AV.bool b14) (AV.bool true) v26 fun b32=>
br b32 (
k (Int.ofNat 0) (Int.ofNat 0) (Int.ofNat 5) h27) (
fI (Qd .i64 x2) fun x33=>
k x33 x3 (Int.ofNat 0) h27)) fun j28=>
br b14 (
j28 Qb h22) (
asI .u64 v15 fun x29=>
asI .u64 v21 fun x30=>
fB (ltI x30 x29) fun b31=>
j28 (AV.bool b31) h22)) fun j23=>
br b14 (
j23 Qb h19) (
asI .i64 v18 fun x24=>
fI (Qd .u64 x24) fun x25=>
j23 (AV.int .u64 x25) h19)) fun j20=>
br b14 (
j20 Qb h16) (
j20 (AV.int .i64 a1) h16)) fun j17=>
br b14 (
j17 Qb h10) (
j17 (AV.int .u64 x2) h10)) fun j11=>
br b5 (
j11 Qb h7) (
asI .i64 v6 fun x12=>
fB (ltI x12 (Int.ofNat 0)) fun b13=>
j11 (AV.bool b13) h7)) fun j8=>
br b5 (
j8 Qb h1) (
j8 (AV.int .i64 a1) h1)
def s68:AV→Int→H→(Int→Int→Int→H→Prop)→Prop:=G8 J0 s76
def w68 (c:AV→Int→H→(Int→Int→Int→H→Prop)→Prop):Fun:=fun xs h k=>arg xs fun a0 xs=>arg xs fun a1 xs=>QY xs <| asI .i64 a1 fun a1=>c a0 a1 h fun r0 r1 r2 h=>k (.tuple [(.int .i64 r0),(.int .i64 r1),(.int .i64 r2)]) h
theorem s68_eq (J:Qh) (c76:AV→H→(Int→Int→Int→H→Prop)→Prop) (a0:AV) (a1:Int) (h:H) (k:AV→H→Prop):Zl ty (gam J [(76,w76 c76)]) Tryd.f68 [a0,(.int .i64 a1)] h k=G8 J c76 a0 a1 h (fun r0 r1 r2 h=>k (.tuple [(.int .i64 r0),(.int .i64 r1),(.int .i64 r2)]) h):=by kernel_rfl
def g68:Fun:=w68 s68
theorem g68_ok:Qt Tryd.prog 68 g68:=(QA QD QE (Qv (J:=J0) (Qc g76_ok (Ql Qn))) Tryd.func68 (fun args w=>by simp)).imp fun xs h k e0=>by
  obtain ⟨a0,xs0,rfl,e1⟩:=Qf e0
  obtain ⟨a1,xs1,rfl,e2⟩:=Qf e1
  obtain ⟨rfl,e3⟩:=Qi e2
  obtain ⟨a1,rfl,e4⟩:=QC.1 e3
  exact (s68_eq J0 s76 a0 a1 h k).mpr e4
def N3 (J:Qh) (c68:AV→Int→H→(Int→Int→Int→H→Prop)→Prop) (a0:AV) (a1:Int) (h:H) (k:Int→H→Prop):Prop :=
QQ a0 (
faK 1 a0 fun p1=>
ldI .i64 p1 h fun x2=>
fB (Bool.not (eqI x2 (Int.ofNat 0))) fun b3=>
br b3 (
k (Int.ofNat 0) h) (
QQ a0 (
faK 0 a0 fun p4=>
ldV p4 h fun v5=>
c68 v5 a1 h fun x7 x8 x9 h6=>
QQ a0 (
faK 0 a0 fun p10=>
ldV p10 h6 fun v11=>
slK 1 v11 (some (AV.int .i64 x8)) none fun v12=>
QQ a0 (
faK 0 a0 fun p13=>
stV p13 v12 h6 fun h14=>
QQ a0 (
faK 1 a0 fun p15=>
stV p15 (AV.int .i64 x9) h14 fun h16=>
k x7 h16))))))
def s53:AV→Int→H→(Int→H→Prop)→Prop:=N3 J0 s68
def w53 (c:AV→Int→H→(Int→H→Prop)→Prop):Fun:=fun xs h k=>arg xs fun a0 xs=>arg xs fun a1 xs=>QY xs <| asI .i64 a1 fun a1=>c a0 a1 h fun r0 h=>k (.int .i64 r0) h
theorem s53_eq (J:Qh) (c68:AV→Int→H→(Int→Int→Int→H→Prop)→Prop) (a0:AV) (a1:Int) (h:H) (k:AV→H→Prop):Zl ty (gam J [(68,w68 c68)]) Tryd.f53 [a0,(.int .i64 a1)] h k=N3 J c68 a0 a1 h (fun r0 h=>k (.int .i64 r0) h):=by kernel_rfl
def g53:Fun:=w53 s53
theorem QeO:Qt Tryd.prog 53 g53:=(QA QD QE (Qv (J:=J0) (Qc g68_ok (Ql Qn))) Tryd.func53 (fun args w=>by simp)).imp fun xs h k e0=>by
  obtain ⟨a0,xs0,rfl,e1⟩:=Qf e0
  obtain ⟨a1,xs1,rfl,e2⟩:=Qf e1
  obtain ⟨rfl,e3⟩:=Qi e2
  obtain ⟨a1,rfl,e4⟩:=QC.1 e3
  exact (s53_eq J0 s68 a0 a1 h k).mpr e4
def Qcb (J:Qh) (c53:AV→Int→H→(Int→H→Prop)→Prop) (a0:AV) (a1:Int) (h:H) (k:Str→H→Prop):Prop :=
c53 a0 a1 h fun x2 h1=>
QQ a0 (
faK 1 a0 fun p3=>
ldI .i64 p3 h1 fun x4=>
fB (Bool.not (eqI x4 (Int.ofNat 0))) fun b5=>
J.jn (fun v6 h7=>
J.jn (fun v9 h10=>
J.jn (fun v12 h13=>
J.jn (fun v15 h16=>
J.jn (fun v19 h20=>
J.jn (fun v23 h24=>
J.jn (fun v27 h28=>
Q3 (AV.bool b5) (AV.bool true) v27 fun b33=>
br b33 (
QQ a0 (
faK 1 a0 fun p34=>
stV p34 (AV.int .i64 (Int.ofNat 5)) h28 fun h35=>
k ⟨0,0⟩ h35)) (
QQ a0 (
faK 0 a0 fun p36=>
ldV p36 h28 fun v37=>
slK 1 v37 none (some (AV.int .i64 x2)) fun v38=>
Y1 v38 h28 fun s39=>
QQ a0 (
faK 0 a0 fun p40=>
ldV p40 h28 fun v41=>
slK 1 v41 (some (AV.int .i64 x2)) none fun v42=>
QQ a0 (
faK 0 a0 fun p43=>
stV p43 v42 h28 fun h44=>
k s39 h44))))) fun j29=>
br b5 (
j29 Qb h24) (
asI .i64 v6 fun x30=>
asI .i64 v23 fun x31=>
fB (ltI x31 x30) fun b32=>
j29 (AV.bool b32) h24)) fun j25=>
br b5 (
j25 Qb h20) (
ZH v19 fun x26=>
j25 (AV.int .i64 (Int.ofNat x26)) h20)) fun j21=>
br b5 (
j21 Qb h16) (
ldV v15 h16 fun v22=>
j21 v22 h16)) fun j17=>
br b5 (
j17 Qb h13) (
faK 0 v12 fun p18=>
j17 p18 h13)) fun j14=>
br b5 (
j14 Qb h10) (
QQ v9 (
j14 v9 h10))) fun j11=>
br b5 (
j11 Qb h7) (
j11 a0 h7)) fun j8=>
br b5 (
j8 Qb h1) (
j8 (AV.int .i64 x2) h1))
def s54:AV→Int→H→(Str→H→Prop)→Prop:=Qcb J0 s53
def w54 (c:AV→Int→H→(Str→H→Prop)→Prop):Fun:=fun xs h k=>arg xs fun a0 xs=>arg xs fun a1 xs=>QY xs <| asI .i64 a1 fun a1=>c a0 a1 h fun r0 h=>k (.str r0) h
theorem s54_eq (J:Qh) (c53:AV→Int→H→(Int→H→Prop)→Prop) (a0:AV) (a1:Int) (h:H) (k:AV→H→Prop):Zl ty (gam J [(53,w53 c53)]) Tryd.f54 [a0,(.int .i64 a1)] h k=Qcb J c53 a0 a1 h (fun r0 h=>k (.str r0) h):=by kernel_rfl
def g54:Fun:=w54 s54
theorem g54_ok:Qt Tryd.prog 54 g54:=(QA QD QE (Qv (J:=J0) (Qc QeO (Ql Qn))) Tryd.func54 (fun args w=>by simp)).imp fun xs h k e0=>by
  obtain ⟨a0,xs0,rfl,e1⟩:=Qf e0
  obtain ⟨a1,xs1,rfl,e2⟩:=Qf e1
  obtain ⟨rfl,e3⟩:=Qi e2
  obtain ⟨a1,rfl,e4⟩:=QC.1 e3
  exact (s54_eq J0 s53 a0 a1 h k).mpr e4
def Qed (J:Qh) (c9:AV→H→(Int→H→Prop)→Prop) (c53:AV→Int→H→(Int→H→Prop)→Prop) (c54:AV→Int→H→(Str→H→Prop)→Prop) (a0:AV) (h:H) (k:AV→Int→H→Prop):Prop :=
Qz (.cells false 62 [(.int .i64 0),(.nils)]) h fun n1 h2=>
ck (ZB a0) (Qz (.cells false 111 [a0,(.int .i64 0)]) h2 fun n3 h4=>
c53 (AV.ptr n3 0) (Int.ofNat 1073741824) h4 fun x6 h5=>
Qz (.cells false 62 [(.int .i64 0),(.nils)]) h5 fun n7 h8=>
stN 2 (AV.ptr n7 0) [(AV.int .i64 x6),(.nils)] h8 fun h9=>
c53 (AV.ptr n3 0) (Int.ofNat 64) h9 fun x11 h10=>
J.lp (α:=AV × AV × AV × AV × Unit) (fun r15 v12 d13 h14=>
asI .i64 v12.2.2.2.1 fun x16=>
fB (ltI (Int.ofNat 0) x16) fun b17=>
J.jn (fun v18 h19=>
J.jn (fun v21 h22=>
J.jn (fun v24 h25=>
J.jn (fun v28 h29=>
J.jn (fun v32 h33=>
Q3 (AV.bool b17) v32 (AV.bool false) fun b37=>
br b37 (
c53 v12.2.1 (Int.ofNat 1) h33 fun x39 h38=>
fB (eqI x39 (Int.ofNat 1)) fun b40=>
c54 v12.2.1 (Int.ofNat 512) h38 fun s42 h41=>
Qz (.cells false 48 [(.str ⟨0,0⟩),(.str ⟨0,0⟩),(.bool false)]) h41 fun n43 h44=>
stN 3 (AV.ptr n43 0) [(AV.str s42),(.str ⟨0,0⟩),(AV.bool b40)] h44 fun h45=>
J.jd (α:=AV × AV × AV × AV × AV × Unit) (fun v46 d47 h48=>
faK 1 v46.2.2.1 fun p50=>
ldV p50 h48 fun v51=>
ldN 3 v46.2.2.2.2.1 h48 fun l52=>
ck (Nat.beq (List.length l52) 3) (op' (Q7 0 l52 [(.str ⟨0,0⟩),(.str ⟨0,0⟩),(.bool false)]) fun l55=>
Qz (.cells false 48 l55) h48 fun n53 h54=>
apC 48 3 40 v51 (AV.slice n53 0 1 1 3 true) h54 fun v56 h57=>
faK 1 v46.2.2.1 fun p58=>
stV p58 v56 h57 fun h59=>
asI .i64 v46.2.2.2.1 fun x60=>
fI (Qd .i64 (Int.sub x60 (Int.ofNat 1))) fun x61=>
r15 (v46.1,v46.2.1,v46.2.2.1,(AV.int .i64 x61),()) d47 h59)) fun j49=>
ldB (AV.ptr n43 2) h45 fun b62=>
fB (Bool.not b62) fun b63=>
br b63 (
c54 v12.2.1 (Int.ofNat 4096) h45 fun s65 h64=>
stV (AV.ptr n43 1) (AV.str s65) h64 fun h66=>
j49 (v12.1,v12.2.1,v12.2.2.1,v12.2.2.2.1,(AV.ptr n43 0),()) d13 h66) (
j49 (v12.1,v12.2.1,v12.2.2.1,v12.2.2.2.1,(AV.ptr n43 0),()) d13 h45)) (
QQ v12.2.1 (
faK 1 v12.2.1 fun p67=>
ldI .i64 p67 h33 fun x68=>
fB (Bool.not (eqI x68 (Int.ofNat 0))) fun b69=>
J.jn (fun v70 h71=>
J.jn (fun v73 h74=>
J.jn (fun v76 h77=>
J.jn (fun v80 h81=>
J.jn (fun v84 h85=>
J.jn (fun v88 h89=>
Q3 (AV.bool b69) (AV.bool true) v88 fun b93=>
J.jn (fun v94 h95=>
J.jn (fun v98 h99=>
J.jn (fun v102 h103=>
Q3 (AV.bool b93) (AV.bool true) v102 fun b107=>
J.jn (fun v108 h109=>
J.jn (fun v112 h113=>
J.jn (fun v116 h117=>
J.jn (fun v121 h122=>
Q3 (AV.bool b107) (AV.bool true) v121 fun b126=>
br b126 (
stN 2 v12.1 [(.int .i64 0),(.nils)] h122 fun h127=>
Qu (gam J [(9,w9 c9),(53,w53 c53),(54,w54 c54)]) d13 h127 fun h128=>
ldN 2 v12.1 h128 fun l129=>
k (AV.agg l129) (Int.ofNat 5) h128) (
ldN 2 v12.2.2.1 h122 fun l130=>
stN 2 v12.1 l130 h122 fun h131=>
Qu (gam J [(9,w9 c9),(53,w53 c53),(54,w54 c54)]) d13 h131 fun h132=>
ldN 2 v12.1 h132 fun l133=>
k (AV.agg l133) (Int.ofNat 0) h132)) fun j123=>
br b107 (
j123 Qb h117) (
asI .i64 v116 fun x124=>
fB (Bool.not (eqI x124 (Int.ofNat 0))) fun b125=>
j123 (AV.bool b125) h117)) fun j118=>
br b107 (
j118 Qb h113) (
c9 v112 h113 fun x120 h119=>
j118 (AV.int .i64 x120) h119)) fun j114=>
br b107 (
j114 Qb h109) (
ldV v108 h109 fun v115=>
j114 v115 h109)) fun j110=>
br b107 (
j110 Qb h103) (
faK 1 v12.2.2.1 fun p111=>
j110 p111 h103)) fun j104=>
br b93 (
j104 Qb h99) (
asI .i64 v98 fun x105=>
fB (ltI x105 (Int.ofNat 1)) fun b106=>
j104 (AV.bool b106) h99)) fun j100=>
br b93 (
j100 Qb h95) (
ldI .i64 v94 h95 fun x101=>
j100 (AV.int .i64 x101) h95)) fun j96=>
br b93 (
j96 Qb h89) (
faK 0 v12.2.2.1 fun p97=>
j96 p97 h89)) fun j90=>
br b69 (
j90 Qb h85) (
asI .i64 v84 fun x91=>
fB (ltI (Int.ofNat 0) x91) fun b92=>
j90 (AV.bool b92) h85)) fun j86=>
br b69 (
j86 Qb h81) (
ZH v80 fun x87=>
j86 (AV.int .i64 (Int.ofNat x87)) h81)) fun j82=>
br b69 (
j82 Qb h77) (
ldV v76 h77 fun v83=>
j82 v83 h77)) fun j78=>
br b69 (
j78 Qb h74) (
faK 0 v73 fun p79=>
j78 p79 h74)) fun j75=>
br b69 (
j75 Qb h71) (
QQ v70 (
j75 v70 h71))) fun j72=>
br b69 (
j72 Qb h33) (
j72 v12.2.1 h33)))) fun j34=>
br b17 (
asI .i64 v28 fun x35=>
fB (eqI x35 (Int.ofNat 0)) fun b36=>
j34 (AV.bool b36) h29) (
j34 Qb h29)) fun j30=>
br b17 (
ldI .i64 v24 h25 fun x31=>
j30 (AV.int .i64 x31) h25) (
j30 Qb h25)) fun j26=>
br b17 (
faK 1 v21 fun p27=>
j26 p27 h22) (
j26 Qb h22)) fun j23=>
br b17 (
QQ v18 (
j23 v18 h19)) (
j23 Qb h19)) fun j20=>
br b17 (
j20 v12.2.1 h14) (
j20 Qb h14)) ((AV.ptr n1 0),(AV.ptr n3 0),(AV.ptr n7 0),(AV.int .i64 x11),()) [] h10)
def s35:AV→H→(AV→Int→H→Prop)→Prop:=Qed J0 s9 s53 s54
def w35 (c:AV→H→(AV→Int→H→Prop)→Prop):Fun:=fun xs h k=>arg xs fun a0 xs=>QY xs <| c a0 h fun r0 r1 h=>k (.tuple [r0,(.int .i64 r1)]) h
theorem s35_eq (J:Qh) (c9:AV→H→(Int→H→Prop)→Prop) (c53:AV→Int→H→(Int→H→Prop)→Prop) (c54:AV→Int→H→(Str→H→Prop)→Prop) (a0:AV) (h:H) (k:AV→H→Prop):Zl ty (gam J [(9,w9 c9),(53,w53 c53),(54,w54 c54)]) Tryd.f35 [a0] h k=Qed J c9 c53 c54 a0 h (fun r0 r1 h=>k (.tuple [r0,(.int .i64 r1)]) h):=by kernel_rfl
def g35:Fun:=w35 s35
theorem Qe0:Qt Tryd.prog 35 g35:=(QA QD QE (Qv (J:=J0) (Qc QbI (Qc QeO (Qc g54_ok (Ql Qn))))) Tryd.func35 (fun args w=>by simp)).imp fun xs h k e0=>by
  obtain ⟨a0,xs0,rfl,e1⟩:=Qf e0
  obtain ⟨rfl,e2⟩:=Qi e1
  exact (s35_eq J0 s9 s53 s54 a0 h k).mpr e2
def Nc (J:Qh) (c10:AV→Str→H→(AV→Int→H→Prop)→Prop) (c24:Int→H→(Str→Int→H→Prop)→Prop) (c34:AV→H→(AV→Int→Int→H→Prop)→Prop) (c35:AV→H→(AV→Int→H→Prop)→Prop) (a0:AV) (a1:Int) (a2:AV) (h:H) (k:AV→Int→H→Prop):Prop :=
c24 a1 h fun s2 x3 h1=>
c10 a0 s2 h1 fun v5 x6 h4=>
fB (Bool.not (eqI x6 (Int.ofNat 0))) fun b7=>
br b7 (
k AV.nils x6 h4) (
c34 v5 h4 fun v9 x10 x11 h8=>
fB (eqI x11 (Int.ofNat 6)) fun b12=>
br b12 (
k AV.nils x11 h8) (
ZH v9 fun x13=>
J.lp (α:=AV × AV × AV × AV × Unit) (fun r17 v14 d15 h16=>
asI .i64 v14.2.2.2.1 fun x18=>
asI .i64 v14.2.2.1 fun x19=>
fB (ltI x18 x19) fun b20=>
br b20 (
ixK 1 v14.2.1 v14.2.2.2.1 fun p21=>
ldV p21 h16 fun v22=>
c35 v22 h16 fun v24 x25 h23=>
Qz (.cells false 62 [(.int .i64 0),(.nils)]) h23 fun n26 h27=>
Go.Am.asAgg v24 fun l29=>
stN 2 (AV.ptr n26 0) l29 h27 fun h28=>
fB (Bool.not (eqI x25 (Int.ofNat 0))) fun b30=>
J.jn (fun v31 h32=>
J.jn (fun v34 h35=>
J.jn (fun v38 h39=>
J.jn (fun v43 h44=>
J.jn (fun v46 h47=>
J.jb (fun b49 v50=>
J.jn (fun v53 h54=>
J.jn (fun v56 h57=>
J.jn (fun v59 h60=>
J.jn (fun v63 h64=>
J.jn (fun v68 h69=>
J.jn (fun v72 h73=>
J.jb (fun b76 v77=>
J.jn (fun v80 h81=>
J.jn (fun v85 h86=>
J.jn (fun v91 h92=>
Q3 (AV.bool b30) (AV.bool true) v91 fun b95=>
br b95 (
Qu (gam J [(10,w10 c10),(24,w24 c24),(34,w34 c34),(35,w35 c35)]) d15 h92 fun h96=>
k AV.nils (Int.ofNat 6) h96) (
ldN 2 (AV.ptr n26 0) h92 fun l97=>
ck (Nat.beq (List.length l97) 2) (op' (Q7 0 l97 [(.int .i64 0),(.nils)]) fun l100=>
Qz (.cells false 62 l100) h92 fun n98 h99=>
apC 62 2 32 v14.1 (AV.slice n98 0 1 1 2 true) h99 fun v101 h102=>
asI .i64 v14.2.2.2.1 fun x103=>
fI (Qd .i64 (Int.add x103 (Int.ofNat 1))) fun x104=>
r17 (v101,v14.2.1,v14.2.2.1,(AV.int .i64 x104),()) d15 h102))) fun j93=>
br b30 (
j93 Qb h86) (
Q3 v43 v85 (AV.bool false) fun b94=>
j93 (AV.bool b94) h86)) fun j87=>
ZW v43 (fun b105=>
br b105 (
asI .i64 v50 fun x88=>
asI .i64 v80 fun x89=>
fB (Bool.not (eqI x88 x89)) fun b90=>
j87 (AV.bool b90) h81) (
j87 Qb h81)) (
j87 Qb h81)) fun j82=>
ZW v43 (fun b106=>
br b106 (
asI .i64 v77 fun x83=>
fI (Qd .i64 (Int.add x83 (Int.ofNat 1))) fun x84=>
j82 (AV.int .i64 x84) h73) (
j82 Qb h73)) (
j82 Qb h73)) fun j78=>
ZW v43 (fun b107=>
br b107 (
ldI .i64 v72 h73 fun x79=>
j78 true (AV.int .i64 x79)) (
j78 false Qb)) (
j78 false Qb)) fun j74=>
ZW v43 (fun b108=>
br b108 (
faK 0 v68 fun p75=>
j74 p75 h69) (
j74 Qb h69)) (
j74 Qb h69)) fun j70=>
ZW v43 (fun b109=>
br b109 (
ixK 2 v53 v63 fun p71=>
j70 p71 h64) (
j70 Qb h64)) (
j70 Qb h64)) fun j65=>
ZW v43 (fun b110=>
br b110 (
asI .i64 v59 fun x66=>
fI (Qd .i64 (Int.sub x66 (Int.ofNat 1))) fun x67=>
j65 (AV.int .i64 x67) h60) (
j65 Qb h60)) (
j65 Qb h60)) fun j61=>
ZW v43 (fun b111=>
br b111 (
ZH v56 fun x62=>
j61 (AV.int .i64 (Int.ofNat x62)) h57) (
j61 Qb h57)) (
j61 Qb h57)) fun j58=>
ZW v43 (fun b112=>
br b112 (
j58 v14.1 h54) (
j58 Qb h54)) (
j58 Qb h54)) fun j55=>
ZW v43 (fun b113=>
br b113 (
j55 v14.1 h47) (
j55 Qb h47)) (
j55 Qb h47)) fun j51=>
ZW v43 (fun b114=>
br b114 (
ldI .i64 v46 h47 fun x52=>
j51 true (AV.int .i64 x52)) (
j51 false Qb)) (
j51 false Qb)) fun j48=>
ZW v43 (fun b115=>
br b115 (
j48 (AV.ptr n26 0) h44) (
j48 Qb h44)) (
j48 Qb h44)) fun j45=>
br b30 (
j45 Qb h39) (
j45 v38 h39)) fun j40=>
br b30 (
j40 Qb h35) (
asI .i64 v34 fun x41=>
fB (ltI (Int.ofNat 0) x41) fun b42=>
j40 (AV.bool b42) h35)) fun j36=>
br b30 (
j36 Qb h32) (
ZH v31 fun x37=>
j36 (AV.int .i64 (Int.ofNat x37)) h32)) fun j33=>
br b30 (
j33 Qb h28) (
j33 v14.1 h28)) (
Qu (gam J [(10,w10 c10),(24,w24 c24),(34,w34 c34),(35,w35 c35)]) d15 h16 fun h116=>
k v14.1 (Int.ofNat 0) h116)) (a2,v9,(AV.int .i64 (Int.ofNat x13)),(AV.int .i64 (Int.ofNat 0)),()) [] h8))
def s19:AV→Int→AV→H→(AV→Int→H→Prop)→Prop:=Nc J0 s10 s24 s34 s35
def w19 (c:AV→Int→AV→H→(AV→Int→H→Prop)→Prop):Fun:=fun xs h k=>arg xs fun a0 xs=>arg xs fun a1 xs=>arg xs fun a2 xs=>QY xs <| asI .i64 a1 fun a1=>c a0 a1 a2 h fun r0 r1 h=>k (.tuple [r0,(.int .i64 r1)]) h
theorem Qel (J:Qh) (c10:AV→Str→H→(AV→Int→H→Prop)→Prop) (c24:Int→H→(Str→Int→H→Prop)→Prop) (c34:AV→H→(AV→Int→Int→H→Prop)→Prop) (c35:AV→H→(AV→Int→H→Prop)→Prop) (a0:AV) (a1:Int) (a2:AV) (h:H) (k:AV→H→Prop):Zl ty (gam J [(10,w10 c10),(24,w24 c24),(34,w34 c34),(35,w35 c35)]) Tryd.f19 [a0,(.int .i64 a1),a2] h k=Nc J c10 c24 c34 c35 a0 a1 a2 h (fun r0 r1 h=>k (.tuple [r0,(.int .i64 r1)]) h):=by kernel_rfl
def g19:Fun:=w19 s19
theorem g19_ok:Qt Tryd.prog 19 g19:=(QA QD QE (Qv (J:=J0) (Qc XL (Qc QaG (Qc g34_ok (Qc Qe0 (Ql Qn)))))) Tryd.func19 (fun args w=>by simp)).imp fun xs h k e0=>by
  obtain ⟨a0,xs0,rfl,e1⟩:=Qf e0
  obtain ⟨a1,xs1,rfl,e2⟩:=Qf e1
  obtain ⟨a2,xs2,rfl,e3⟩:=Qf e2
  obtain ⟨rfl,e4⟩:=Qi e3
  obtain ⟨a1,rfl,e5⟩:=QC.1 e4
  exact (Qel J0 s10 s24 s34 s35 a0 a1 a2 h k).mpr e5
def Qbe (J:Qh) (a0:AV) (a1:Int) (h:H) (k:Int→H→Prop):Prop :=
QQ a0 (
faK 3 a0 fun p1=>
ldB p1 h fun b2=>
J.jn (fun v3 h4=>
J.jn (fun v6 h7=>
Q3 (AV.bool b2) (AV.bool true) v6 fun b11=>
QQ a0 (
faK 3 a0 fun p12=>
stV p12 (AV.bool b11) h7 fun h13=>
k a1 h13)) fun j8=>
br b2 (
j8 Qb h4) (
asI .i64 v3 fun x9=>
fB (eqI x9 (Int.ofNat 7)) fun b10=>
j8 (AV.bool b10) h4)) fun j5=>
br b2 (
j5 Qb h) (
j5 (AV.int .i64 a1) h))
def s25:AV→Int→H→(Int→H→Prop)→Prop:=Qbe J0
def w25 (c:AV→Int→H→(Int→H→Prop)→Prop):Fun:=fun xs h k=>arg xs fun a0 xs=>arg xs fun a1 xs=>QY xs <| asI .i64 a1 fun a1=>c a0 a1 h fun r0 h=>k (.int .i64 r0) h
theorem s25_eq (J:Qh) (a0:AV) (a1:Int) (h:H) (k:AV→H→Prop):Zl ty (gam J []) Tryd.f25 [a0,(.int .i64 a1)] h k=Qbe J  a0 a1 h (fun r0 h=>k (.int .i64 r0) h):=by kernel_rfl
def g25:Fun:=w25 s25
theorem QaF:Qt Tryd.prog 25 g25:=(QA QD QE (Qv (J:=J0) (Ql Qn)) Tryd.func25 (fun args w=>by simp)).imp fun xs h k e0=>by
  obtain ⟨a0,xs0,rfl,e1⟩:=Qf e0
  obtain ⟨a1,xs1,rfl,e2⟩:=Qf e1
  obtain ⟨rfl,e3⟩:=Qi e2
  obtain ⟨a1,rfl,e4⟩:=QC.1 e3
  exact (s25_eq J0  a0 a1 h k).mpr e4
def s65G (J:Qh) (a0:AV) (h:H) (k:Int→H→Prop):Prop :=
QQ a0 (
faK 6 a0 fun p1=>
ldB p1 h fun b2=>
J.jn (fun v3 h4=>
J.jn (fun v6 h7=>
J.jn (fun v9 h10=>
J.jn (fun v13 h14=>
J.jn (fun v17 h18=>
Q3 (AV.bool b2) v17 (AV.bool false) fun b22=>
br b22 (
QQ a0 (
faK 5 a0 fun p23=>
stV p23 (AV.bool true) h18 fun h24=>
k (Int.ofNat 7) h24)) (
J.jd (α:=AV × Unit) (fun v25 d26 h27=>
QQ v25.1 (
faK 8 v25.1 fun p29=>
ldI .i64 p29 h27 fun x30=>
fI (Qd .i64 (Int.add x30 (Int.ofNat 1))) fun x31=>
QQ v25.1 (
faK 8 v25.1 fun p32=>
stV p32 (AV.int .i64 x31) h27 fun h33=>
Qu (gam J []) d26 h33 fun h34=>
k (Int.ofNat 0) h34))) fun j28=>
QQ a0 (
faK 6 a0 fun p35=>
ldB p35 h18 fun b36=>
br b36 (
QQ a0 (
faK 7 a0 fun p37=>
ldI .i64 p37 h18 fun x38=>
fI (Qd .i64 (Int.sub x38 (Int.ofNat 1))) fun x39=>
QQ a0 (
faK 7 a0 fun p40=>
stV p40 (AV.int .i64 x39) h18 fun h41=>
j28 (a0,()) [] h41))) (
j28 (a0,()) [] h18)))) fun j19=>
br b2 (
asI .i64 v13 fun x20=>
fB (eqI x20 (Int.ofNat 0)) fun b21=>
j19 (AV.bool b21) h14) (
j19 Qb h14)) fun j15=>
br b2 (
ldI .i64 v9 h10 fun x16=>
j15 (AV.int .i64 x16) h10) (
j15 Qb h10)) fun j11=>
br b2 (
faK 7 v6 fun p12=>
j11 p12 h7) (
j11 Qb h7)) fun j8=>
br b2 (
QQ v3 (
j8 v3 h4)) (
j8 Qb h4)) fun j5=>
br b2 (
j5 a0 h) (
j5 Qb h))
def s65:AV→H→(Int→H→Prop)→Prop:=s65G J0
def w65 (c:AV→H→(Int→H→Prop)→Prop):Fun:=fun xs h k=>arg xs fun a0 xs=>QY xs <| c a0 h fun r0 h=>k (.int .i64 r0) h
theorem s65_eq (J:Qh) (a0:AV) (h:H) (k:AV→H→Prop):Zl ty (gam J []) Tryd.f65 [a0] h k=s65G J  a0 h (fun r0 h=>k (.int .i64 r0) h):=by kernel_rfl
def g65:Fun:=w65 s65
theorem QeM:Qt Tryd.prog 65 g65:=(QA QD QE (Qv (J:=J0) (Ql Qn)) Tryd.func65 (fun args w=>by simp)).imp fun xs h k e0=>by
  obtain ⟨a0,xs0,rfl,e1⟩:=Qf e0
  obtain ⟨rfl,e2⟩:=Qi e1
  exact (s65_eq J0  a0 h k).mpr e2
def s45G (J:Qh) (c65:AV→H→(Int→H→Prop)→Prop) (a0:AV) (a1:AV) (h:H) (k:Int→H→Prop):Prop :=
Go.Am.asAgg a1 fun l3=>
Qz (.cells false 100 l3) h fun n1 h2=>
c65 a0 h2 fun x5 h4=>
J.jd (α:=AV × Unit) (fun v6 d7 h8=>
Qu (gam J [(65,w65 c65)]) d7 h8 fun h10=>
asI .i64 v6.1 fun x11=>
k x11 h10) fun j9=>
fB (eqI x5 (Int.ofNat 0)) fun b12=>
br b12 (
QQ a0 (
faK 2 a0 fun p13=>
ldV p13 h4 fun v14=>
ldN 5 (AV.ptr n1 0) h4 fun l15=>
ck (Nat.beq (List.length l15) 5) (op' (Q7 0 l15 [(.int .i64 0),(.str ⟨0,0⟩),(.str ⟨0,0⟩),(.int .i64 0),(.nils)]) fun l18=>
Qz (.cells false 100 l18) h4 fun n16 h17=>
apC 100 5 72 v14 (AV.slice n16 0 1 1 5 true) h17 fun v19 h20=>
QQ a0 (
faK 2 a0 fun p21=>
stV p21 v19 h20 fun h22=>
j9 ((AV.int .i64 x5),()) [] h22)))) (
j9 ((AV.int .i64 x5),()) [] h4)
def s45:AV→AV→H→(Int→H→Prop)→Prop:=s45G J0 s65
def w45 (c:AV→AV→H→(Int→H→Prop)→Prop):Fun:=fun xs h k=>arg xs fun a0 xs=>arg xs fun a1 xs=>QY xs <| c a0 a1 h fun r0 h=>k (.int .i64 r0) h
theorem s45_eq (J:Qh) (c65:AV→H→(Int→H→Prop)→Prop) (a0:AV) (a1:AV) (h:H) (k:AV→H→Prop):Zl ty (gam J [(65,w65 c65)]) Tryd.f45 [a0,a1] h k=s45G J c65 a0 a1 h (fun r0 h=>k (.int .i64 r0) h):=by kernel_rfl
def g45:Fun:=w45 s45
theorem Qcp:Qt Tryd.prog 45 g45:=(QA QD QE (Qv (J:=J0) (Qc QeM (Ql Qn))) Tryd.func45 (fun args w=>by simp)).imp fun xs h k e0=>by
  obtain ⟨a0,xs0,rfl,e1⟩:=Qf e0
  obtain ⟨a1,xs1,rfl,e2⟩:=Qf e1
  obtain ⟨rfl,e3⟩:=Qi e2
  exact (s45_eq J0 s65 a0 a1 h k).mpr e3
def s36G (J:Qh) (c31:AV→H→(AV→H→Prop)→Prop) (c45:AV→AV→H→(Int→H→Prop)→Prop) (c48:AV→AV→H→(Int→H→Prop)→Prop) (a0:AV) (a1:Str) (h:H) (k:Int→H→Prop):Prop :=
Qz (.cells false 9 [(AV.str a1)]) h fun n1 h2=>
c48 a0 (AV.slice n1 0 1 1 1 true) h2 fun x4 h3=>
fB (Bool.not (eqI x4 (Int.ofNat 0))) fun b5=>
br b5 (
k x4 h3) (
c31 a0 h3 fun v7 h6=>
Go.Am.asAgg v7 fun l8=>
op' (Q8 l8 1) fun v9=>
op' (Q5 ty 9 3 true v9 (AV.str a1) h6) fun v10=>
asTup v10 fun l11=>
op' (Q8 l11 0) fun v12=>
asI .i64 v12 fun x13=>
asTup v10 fun l14=>
op' (Q8 l14 1) fun v15=>
asB v15 fun b16=>
br b16 (
k (Int.ofNat 9) h6) (
QQ a0 (
faK 4 a0 fun p17=>
ldI .i64 p17 h6 fun x18=>
c45 a0 (AV.agg [(AV.int .i64 (Int.ofNat 1)),(AV.str a1),(.str ⟨0,0⟩),(AV.int .i64 x18),(.nils)]) h6 fun x20 h19=>
QQ a0 (
faK 4 a0 fun p21=>
ldI .i64 p21 h19 fun x22=>
fI (Qd .i64 (Int.add x22 (Int.ofNat 1))) fun x23=>
QQ a0 (
faK 4 a0 fun p24=>
stV p24 (AV.int .i64 x23) h19 fun h25=>
k x20 h25)))))
def s36:AV→Str→H→(Int→H→Prop)→Prop:=s36G J0 s31 s45 s48
def w36 (c:AV→Str→H→(Int→H→Prop)→Prop):Fun:=fun xs h k=>arg xs fun a0 xs=>arg xs fun a1 xs=>QY xs <| asS a1 fun a1=>c a0 a1 h fun r0 h=>k (.int .i64 r0) h
theorem s36_eq (J:Qh) (c31:AV→H→(AV→H→Prop)→Prop) (c45:AV→AV→H→(Int→H→Prop)→Prop) (c48:AV→AV→H→(Int→H→Prop)→Prop) (a0:AV) (a1:Str) (h:H) (k:AV→H→Prop):Zl ty (gam J [(31,w31 c31),(45,w45 c45),(48,w48 c48)]) Tryd.f36 [a0,(.str a1)] h k=s36G J c31 c45 c48 a0 a1 h (fun r0 h=>k (.int .i64 r0) h):=by kernel_rfl
def g36:Fun:=w36 s36
theorem QeZ:Qt Tryd.prog 36 g36:=(QA QD QE (Qv (J:=J0) (Qc QaD (Qc Qcp (Qc QaC (Ql Qn))))) Tryd.func36 (fun args w=>by simp)).imp fun xs h k e0=>by
  obtain ⟨a0,xs0,rfl,e1⟩:=Qf e0
  obtain ⟨a1,xs1,rfl,e2⟩:=Qf e1
  obtain ⟨rfl,e3⟩:=Qi e2
  obtain ⟨a1,rfl,e4⟩:=ZJ.1 e3
  exact (s36_eq J0 s31 s45 s48 a0 a1 h k).mpr e4
def s47G (J:Qh) (a0:AV) (a1:AV) (h:H) (k:Bool→H→Prop):Prop :=
Go.Am.asAgg a0 fun l3=>
Qz (.cells false 100 l3) h fun n1 h2=>
ldI .i64 (AV.ptr n1 0) h2 fun x4=>
fB (eqI x4 (Int.ofNat 0)) fun b5=>
J.jn (fun v6 h7=>
J.jn (fun v9 h10=>
J.jn (fun v13 h14=>
J.jn (fun v17 h18=>
Q3 (AV.bool b5) v17 (AV.bool false) fun b23=>
k b23 h18) fun j19=>
br b5 (
asI .i64 v9 fun x20=>
asI .i64 v13 fun x21=>
fB (eqI x20 x21) fun b22=>
j19 (AV.bool b22) h14) (
j19 Qb h14)) fun j15=>
br b5 (
ldI .i64 a1 h10 fun x16=>
j15 (AV.int .i64 x16) h10) (
j15 Qb h10)) fun j11=>
br b5 (
ldI .i64 v6 h7 fun x12=>
j11 (AV.int .i64 x12) h7) (
j11 Qb h7)) fun j8=>
br b5 (
j8 (AV.ptr n1 3) h2) (
j8 Qb h2)
def s47:AV→AV→H→(Bool→H→Prop)→Prop:=s47G J0
def w47 (c:AV→AV→H→(Bool→H→Prop)→Prop):Fun:=fun xs h k=>arg xs fun a0 xs=>arg xs fun a1 xs=>QY xs <| c a0 a1 h fun r0 h=>k (.bool r0) h
theorem s47_eq (J:Qh) (a0:AV) (a1:AV) (h:H) (k:AV→H→Prop):Zl ty (gam J []) Tryd.f47 [a0,a1] h k=s47G J  a0 a1 h (fun r0 h=>k (.bool r0) h):=by kernel_rfl
def g47:Fun:=w47 s47
theorem QeQ:Qt Tryd.prog 47 g47:=(QA QD QE (Qv (J:=J0) (Ql Qn)) Tryd.func47 (fun args w=>by simp)).imp fun xs h k e0=>by
  obtain ⟨a0,xs0,rfl,e1⟩:=Qf e0
  obtain ⟨a1,xs1,rfl,e2⟩:=Qf e1
  obtain ⟨rfl,e3⟩:=Qi e2
  exact (s47_eq J0  a0 a1 h k).mpr e3
def s55G (J:Qh) (a0:AV) (h:H) (k:Bool→H→Prop):Prop :=
Go.Am.asAgg a0 fun l3=>
Qz (.cells false 100 l3) h fun n1 h2=>
ldI .i64 (AV.ptr n1 0) h2 fun x4=>
fB (Bool.not (eqI x4 (Int.ofNat 0))) fun b5=>
k b5 h2
def s55:AV→H→(Bool→H→Prop)→Prop:=s55G J0
def w55 (c:AV→H→(Bool→H→Prop)→Prop):Fun:=fun xs h k=>arg xs fun a0 xs=>QY xs <| c a0 h fun r0 h=>k (.bool r0) h
theorem s55_eq (J:Qh) (a0:AV) (h:H) (k:AV→H→Prop):Zl ty (gam J []) Tryd.f55 [a0] h k=s55G J  a0 h (fun r0 h=>k (.bool r0) h):=by kernel_rfl
def g55:Fun:=w55 s55
theorem QeN:Qt Tryd.prog 55 g55:=(QA QD QE (Qv (J:=J0) (Ql Qn)) Tryd.func55 (fun args w=>by simp)).imp fun xs h k e0=>by
  obtain ⟨a0,xs0,rfl,e1⟩:=Qf e0
  obtain ⟨rfl,e2⟩:=Qi e1
  exact (s55_eq J0  a0 h k).mpr e2
def s46G (J:Qh) (c47:AV→AV→H→(Bool→H→Prop)→Prop) (c51:AV→AV→H→(H→Prop)→Prop) (c55:AV→H→(Bool→H→Prop)→Prop) (c65:AV→H→(Int→H→Prop)→Prop) (a0:AV) (a1:AV) (h:H) (k:Int→H→Prop):Prop :=
c65 a0 h fun x2 h1=>
fB (Bool.not (eqI x2 (Int.ofNat 0))) fun b3=>
br b3 (
k x2 h1) (
QQ a0 (
faK 2 a0 fun p4=>
ldV p4 h1 fun v5=>
ZH v5 fun x6=>
J.lp (α:=AV × AV × AV × AV × AV × AV × Unit) (fun r10 v7 d8 h9=>
asI .i64 v7.2.2.2.2.2.1 fun x11=>
asI .i64 v7.2.2.2.2.1 fun x12=>
fB (ltI x11 x12) fun b13=>
br b13 (
J.jd (α:=AV × AV × AV × AV × AV × AV × Unit) (fun v14 d15 h16=>
asI .i64 v14.2.2.2.2.2.1 fun x18=>
fI (Qd .i64 (Int.add x18 (Int.ofNat 1))) fun x19=>
r10 (v14.1,v14.2.1,v14.2.2.1,v14.2.2.2.1,v14.2.2.2.2.1,(AV.int .i64 x19),()) d15 h16) fun j17=>
ixK 5 v7.2.2.2.1 v7.2.2.2.2.2.1 fun p20=>
ldN 5 p20 h9 fun l21=>
Qz (.cells false 100 [(.int .i64 0),(.str ⟨0,0⟩),(.str ⟨0,0⟩),(.int .i64 0),(.nils)]) h9 fun n22 h23=>
stN 5 (AV.ptr n22 0) l21 h23 fun h24=>
ldN 5 (AV.ptr n22 0) h24 fun l25=>
K8 (gam J [(47,w47 c47),(51,w51 c51),(55,w55 c55),(65,w65 c65)]) v7.2.1 [(AV.agg l25)] h24 fun v26 h27=>
asB v26 fun b28=>
br b28 (
QQ v7.1 (
faK 0 v7.1 fun p29=>
ldN 2 p29 h27 fun l30=>
ldN 5 (AV.ptr n22 0) h27 fun l31=>
c51 (AV.agg l30) (AV.agg l31) h27 fun  h32=>
j17 (v7.1,v7.2.1,v7.2.2.1,v7.2.2.2.1,v7.2.2.2.2.1,v7.2.2.2.2.2.1,()) d8 h32)) (
ldN 5 (AV.ptr n22 0) h27 fun l33=>
ck (Nat.beq (List.length l33) 5) (op' (Q7 0 l33 [(.int .i64 0),(.str ⟨0,0⟩),(.str ⟨0,0⟩),(.int .i64 0),(.nils)]) fun l36=>
Qz (.cells false 100 l36) h27 fun n34 h35=>
apC 100 5 72 v7.2.2.1 (AV.slice n34 0 1 1 5 true) h35 fun v37 h38=>
j17 (v7.1,v7.2.1,v37,v7.2.2.2.1,v7.2.2.2.2.1,v7.2.2.2.2.2.1,()) d8 h38))) (
QQ v7.1 (
faK 2 v7.1 fun p39=>
stV p39 v7.2.2.1 h9 fun h40=>
Qu (gam J [(47,w47 c47),(51,w51 c51),(55,w55 c55),(65,w65 c65)]) d8 h40 fun h41=>
k (Int.ofNat 0) h41))) (a0,a1,AV.nils,v5,(AV.int .i64 (Int.ofNat x6)),(AV.int .i64 (Int.ofNat 0)),()) [] h1))
def s46:AV→AV→H→(Int→H→Prop)→Prop:=s46G J0 s47 s51 s55 s65
def w46 (c:AV→AV→H→(Int→H→Prop)→Prop):Fun:=fun xs h k=>arg xs fun a0 xs=>arg xs fun a1 xs=>QY xs <| c a0 a1 h fun r0 h=>k (.int .i64 r0) h
theorem s46_eq (J:Qh) (c47:AV→AV→H→(Bool→H→Prop)→Prop) (c51:AV→AV→H→(H→Prop)→Prop) (c55:AV→H→(Bool→H→Prop)→Prop) (c65:AV→H→(Int→H→Prop)→Prop) (a0:AV) (a1:AV) (h:H) (k:AV→H→Prop):Zl ty (gam J [(47,w47 c47),(51,w51 c51),(55,w55 c55),(65,w65 c65)]) Tryd.f46 [a0,a1] h k=s46G J c47 c51 c55 c65 a0 a1 h (fun r0 h=>k (.int .i64 r0) h):=by kernel_rfl
def g46:Fun:=w46 s46
theorem QeR:Qt Tryd.prog 46 g46:=(QA QD QE (Qv (J:=J0) (Qc QeQ (Qc QeP (Qc QeN (Qc QeM (Ql Qn)))))) Tryd.func46 (fun args w=>by simp)).imp fun xs h k e0=>by
  obtain ⟨a0,xs0,rfl,e1⟩:=Qf e0
  obtain ⟨a1,xs1,rfl,e2⟩:=Qf e1
  obtain ⟨rfl,e3⟩:=Qi e2
  exact (s46_eq J0 s47 s51 s55 s65 a0 a1 h k).mpr e3
def s37G (J:Qh) (c46:AV→AV→H→(Int→H→Prop)→Prop) (c48:AV→AV→H→(Int→H→Prop)→Prop) (c55:AV→H→(Bool→H→Prop)→Prop) (a0:AV) (h:H) (k:Int→H→Prop):Prop :=
c48 a0 AV.nils h fun x2 h1=>
fB (Bool.not (eqI x2 (Int.ofNat 0))) fun b3=>
br b3 (
k x2 h1) (
c46 a0 (AV.func (.func 55) [] []) h1 fun x5 h4=>
k x5 h4)
def s37:AV→H→(Int→H→Prop)→Prop:=s37G J0 s46 s48 s55
def w37 (c:AV→H→(Int→H→Prop)→Prop):Fun:=fun xs h k=>arg xs fun a0 xs=>QY xs <| c a0 h fun r0 h=>k (.int .i64 r0) h
theorem s37_eq (J:Qh) (c46:AV→AV→H→(Int→H→Prop)→Prop) (c48:AV→AV→H→(Int→H→Prop)→Prop) (c55:AV→H→(Bool→H→Prop)→Prop) (a0:AV) (h:H) (k:AV→H→Prop):Zl ty (gam J [(46,w46 c46),(48,w48 c48),(55,w55 c55)]) Tryd.f37 [a0] h k=s37G J c46 c48 c55 a0 h (fun r0 h=>k (.int .i64 r0) h):=by kernel_rfl
def g37:Fun:=w37 s37
theorem QeY:Qt Tryd.prog 37 g37:=(QA QD QE (Qv (J:=J0) (Qc QeR (Qc QaC (Qc QeN (Ql Qn))))) Tryd.func37 (fun args w=>by simp)).imp fun xs h k e0=>by
  obtain ⟨a0,xs0,rfl,e1⟩:=Qf e0
  obtain ⟨rfl,e2⟩:=Qi e1
  exact (s37_eq J0 s46 s48 s55 a0 h k).mpr e2
def Qek (J:Qh) (c24:Int→H→(Str→Int→H→Prop)→Prop) (c25:AV→Int→H→(Int→H→Prop)→Prop) (c36:AV→Str→H→(Int→H→Prop)→Prop) (c37:AV→H→(Int→H→Prop)→Prop) (a0:AV) (h:H) (k:Int→H→Prop):Prop :=
QQ a0 (
faK 2 a0 fun p1=>
ldI .i64 p1 h fun x2=>
fI (Qd .i64 (Int.add x2 (Int.ofNat 1))) fun x3=>
c24 x3 h fun s5 x6 h4=>
fB (Bool.not (eqI x6 (Int.ofNat 0))) fun b7=>
br b7 (
k (Int.ofNat 3) h4) (
QQ a0 (
faK 0 a0 fun p8=>
ldV p8 h4 fun v9=>
c36 v9 s5 h4 fun x11 h10=>
c25 a0 x11 h10 fun x13 h12=>
fB (Bool.not (eqI x13 (Int.ofNat 0))) fun b14=>
br b14 (
k x13 h12) (
QQ a0 (
faK 0 a0 fun p15=>
ldV p15 h12 fun v16=>
c37 v16 h12 fun x18 h17=>
c25 a0 x18 h17 fun x20 h19=>
fB (Bool.not (eqI x20 (Int.ofNat 0))) fun b21=>
br b21 (
k x20 h19) (
QQ a0 (
faK 2 a0 fun p22=>
ldI .i64 p22 h19 fun x23=>
fI (Qd .i64 (Int.add x23 (Int.ofNat 1))) fun x24=>
QQ a0 (
faK 2 a0 fun p25=>
stV p25 (AV.int .i64 x24) h19 fun h26=>
k (Int.ofNat 0) h26))))))))
def s20:AV→H→(Int→H→Prop)→Prop:=Qek J0 s24 s25 s36 s37
def w20 (c:AV→H→(Int→H→Prop)→Prop):Fun:=fun xs h k=>arg xs fun a0 xs=>QY xs <| c a0 h fun r0 h=>k (.int .i64 r0) h
theorem Qej (J:Qh) (c24:Int→H→(Str→Int→H→Prop)→Prop) (c25:AV→Int→H→(Int→H→Prop)→Prop) (c36:AV→Str→H→(Int→H→Prop)→Prop) (c37:AV→H→(Int→H→Prop)→Prop) (a0:AV) (h:H) (k:AV→H→Prop):Zl ty (gam J [(24,w24 c24),(25,w25 c25),(36,w36 c36),(37,w37 c37)]) Tryd.f20 [a0] h k=Qek J c24 c25 c36 c37 a0 h (fun r0 h=>k (.int .i64 r0) h):=by kernel_rfl
def g20:Fun:=w20 s20
theorem g20_ok:Qt Tryd.prog 20 g20:=(QA QD QE (Qv (J:=J0) (Qc QaG (Qc QaF (Qc QeZ (Qc QeY (Ql Qn)))))) Tryd.func20 (fun args w=>by simp)).imp fun xs h k e0=>by
  obtain ⟨a0,xs0,rfl,e1⟩:=Qf e0
  obtain ⟨rfl,e2⟩:=Qi e1
  exact (Qej J0 s24 s25 s36 s37 a0 h k).mpr e2
def s6G (J:Qh) (c17:AV→H→(Int→H→Prop)→Prop) (c18:AV→Int→H→(Bool→H→Prop)→Prop) (c19:AV→Int→AV→H→(AV→Int→H→Prop)→Prop) (c20:AV→H→(Int→H→Prop)→Prop) (a0:AV) (a1:Int) (a2:Int) (h:H) (k:AV→AV→Int→H→Prop):Prop :=
c17 a0 h fun x2 h1=>
fB (Bool.not (eqI x2 (Int.ofNat 0))) fun b3=>
br b3 (
k AV.nilp AV.nils x2 h1) (
fB (ltI a1 (Int.ofNat 1)) fun b4=>
J.jn (fun v5 h6=>
J.jn (fun v8 h9=>
Q3 (AV.bool b4) (AV.bool true) v8 fun b13=>
J.jn (fun v14 h15=>
J.jn (fun v17 h18=>
Q3 (AV.bool b13) (AV.bool true) v17 fun b22=>
J.jn (fun v23 h24=>
J.jn (fun v26 h27=>
Q3 (AV.bool b22) (AV.bool true) v26 fun b31=>
br b31 (
k AV.nilp AV.nils (Int.ofNat 2) h27) (
J.lp (α:=AV × AV × AV × AV × Unit) (fun r35 v32 d33 h34=>
asI .i64 v32.2.2.2.1 fun x37=>
c18 v32.1 x37 h34 fun b38 h36=>
br b38 (
asI .i64 v32.2.2.2.1 fun x40=>
c19 v32.1 x40 v32.2.2.1 h36 fun v41 x42 h39=>
fB (Bool.not (eqI x42 (Int.ofNat 0))) fun b43=>
br b43 (
Qu (gam J [(17,w17 c17),(18,w18 c18),(19,w19 c19),(20,w20 c20)]) d33 h39 fun h44=>
k AV.nilp AV.nils x42 h44) (
asI .i64 v32.2.2.2.1 fun x45=>
fI (Qd .i64 (Int.add x45 (Int.ofNat 1))) fun x46=>
r35 (v32.1,v32.2.1,v41,(AV.int .i64 x46),()) d33 h39)) (
ZH v32.2.2.1 fun x47=>
fB (ltI (Int.ofNat 0) (Int.ofNat x47)) fun b48=>
J.jn (fun v49 h50=>
J.jn (fun v52 h53=>
J.jn (fun v56 h57=>
J.jn (fun v60 h61=>
J.jn (fun v64 h65=>
J.jn (fun v67 h68=>
J.jn (fun v72 h73=>
J.jn (fun v78 h79=>
J.jn (fun v81 h82=>
J.jn (fun v84 h85=>
J.jn (fun v87 h88=>
J.jn (fun v92 h93=>
J.jn (fun v96 h97=>
J.jn (fun v100 h101=>
J.jn (fun v104 h105=>
J.jn (fun v107 h108=>
J.jn (fun v113 h114=>
Q3 (AV.bool b48) v113 (AV.bool false) fun b117=>
br b117 (
Qu (gam J [(17,w17 c17),(18,w18 c18),(19,w19 c19),(20,w20 c20)]) d33 h114 fun h118=>
k AV.nilp AV.nils (Int.ofNat 6) h118) (
asI .i64 v32.2.2.2.1 fun x119=>
fI (Qd .i64 (Int.sub x119 (Int.ofNat 1))) fun x120=>
ck (ZB v32.1) (asI .i64 v32.2.1 fun x121=>
Qz (.cells false 64 [v32.1,(AV.int .i64 x121),(AV.int .i64 x120),(.bool false),(AV.bool true)]) h114 fun n122 h123=>
c20 (AV.ptr n122 0) h123 fun x125 h124=>
fB (Bool.not (eqI x125 (Int.ofNat 0))) fun b126=>
br b126 (
Qu (gam J [(17,w17 c17),(18,w18 c18),(19,w19 c19),(20,w20 c20)]) d33 h124 fun h127=>
k AV.nilp AV.nils x125 h127) (
J.jd (α:=AV × AV × AV × Unit) (fun v128 d129 h130=>
J.lp (α:=AV × AV × AV × Unit) (fun r135 v132 d133 h134=>
ZH v132.2.1 fun x136=>
fB (ltI (Int.ofNat 0) (Int.ofNat x136)) fun b137=>
J.jn (fun v138 h139=>
J.jn (fun v141 h142=>
J.jn (fun v145 h146=>
J.jn (fun v149 h150=>
J.jn (fun v153 h154=>
J.jn (fun v156 h157=>
Q3 (AV.bool b137) v156 (AV.bool false) fun b162=>
br b162 (
slK 2 v132.2.1 (some (AV.int .i64 (Int.ofNat 1))) none fun v163=>
r135 (v132.1,v163,v132.2.2.1,()) d133 h157) (
Qu (gam J [(17,w17 c17),(18,w18 c18),(19,w19 c19),(20,w20 c20)]) d133 h157 fun h164=>
k v132.2.2.1 v132.2.1 (Int.ofNat 0) h164)) fun j158=>
br b137 (
asI .i64 v149 fun x159=>
asI .i64 v153 fun x160=>
fB (Bool.not (ltI x160 x159)) fun b161=>
j158 (AV.bool b161) h154) (
j158 Qb h154)) fun j155=>
br b137 (
j155 v132.1 h150) (
j155 Qb h150)) fun j151=>
br b137 (
ldI .i64 v145 h146 fun x152=>
j151 (AV.int .i64 x152) h146) (
j151 Qb h146)) fun j147=>
br b137 (
faK 0 v141 fun p148=>
j147 p148 h142) (
j147 Qb h142)) fun j143=>
br b137 (
ixK 2 v138 (AV.int .i64 (Int.ofNat 0)) fun p144=>
j143 p144 h139) (
j143 Qb h139)) fun j140=>
br b137 (
j140 v132.2.1 h134) (
j140 Qb h134)) (v128.1,v128.2.1,v128.2.2.1,()) d129 h130) fun j131=>
ZH v32.2.2.1 fun x165=>
fB (ltI (Int.ofNat 0) (Int.ofNat x165)) fun b166=>
br b166 (
fI (Qd .i64 (Int.sub (Int.ofNat x165) (Int.ofNat 1))) fun x167=>
ixK 2 v32.2.2.1 (AV.int .i64 x167) fun p168=>
faK 0 p168 fun p169=>
ldI .i64 p169 h124 fun x170=>
stV (AV.ptr n122 1) (AV.int .i64 x170) h124 fun h171=>
j131 (v32.2.1,v32.2.2.1,(AV.ptr n122 0),()) d33 h171) (
j131 (v32.2.1,v32.2.2.1,(AV.ptr n122 0),()) d33 h124))))) fun j115=>
br b48 (
Q3 v78 (AV.bool true) v107 fun b116=>
j115 (AV.bool b116) h108) (
j115 Qb h108)) fun j109=>
ZW v78 (fun b172=>
br b172 (
j109 Qb h105) (
asI .i64 v100 fun x110=>
asI .i64 v104 fun x111=>
fB (ltI x110 x111) fun b112=>
j109 (AV.bool b112) h105)) (
j109 Qb h105)) fun j106=>
ZW v78 (fun b173=>
br b173 (
j106 Qb h101) (
j106 v32.2.1 h101)) (
j106 Qb h101)) fun j102=>
ZW v78 (fun b174=>
br b174 (
j102 Qb h97) (
ldI .i64 v96 h97 fun x103=>
j102 (AV.int .i64 x103) h97)) (
j102 Qb h97)) fun j98=>
ZW v78 (fun b175=>
br b175 (
j98 Qb h93) (
faK 0 v92 fun p99=>
j98 p99 h93)) (
j98 Qb h93)) fun j94=>
ZW v78 (fun b176=>
br b176 (
j94 Qb h88) (
ixK 2 v81 v87 fun p95=>
j94 p95 h88)) (
j94 Qb h88)) fun j89=>
ZW v78 (fun b177=>
br b177 (
j89 Qb h85) (
asI .i64 v84 fun x90=>
fI (Qd .i64 (Int.sub x90 (Int.ofNat 1))) fun x91=>
j89 (AV.int .i64 x91) h85)) (
j89 Qb h85)) fun j86=>
ZW v78 (fun b178=>
br b178 (
j86 Qb h82) (
j86 (AV.int .i64 (Int.ofNat x47)) h82)) (
j86 Qb h82)) fun j83=>
ZW v78 (fun b179=>
br b179 (
j83 Qb h79) (
j83 v32.2.2.1 h79)) (
j83 Qb h79)) fun j80=>
br b48 (
j80 v72 h73) (
j80 Qb h73)) fun j74=>
br b48 (
asI .i64 v60 fun x75=>
asI .i64 v67 fun x76=>
fB (ltI x76 x75) fun b77=>
j74 (AV.bool b77) h68) (
j74 Qb h68)) fun j69=>
br b48 (
asI .i64 v64 fun x70=>
fI (Qd .i64 (Int.add x70 (Int.ofNat 1))) fun x71=>
j69 (AV.int .i64 x71) h65) (
j69 Qb h65)) fun j66=>
br b48 (
j66 v32.2.1 h61) (
j66 Qb h61)) fun j62=>
br b48 (
ldI .i64 v56 h57 fun x63=>
j62 (AV.int .i64 x63) h57) (
j62 Qb h57)) fun j58=>
br b48 (
faK 0 v52 fun p59=>
j58 p59 h53) (
j58 Qb h53)) fun j54=>
br b48 (
ixK 2 v49 (AV.int .i64 (Int.ofNat 0)) fun p55=>
j54 p55 h50) (
j54 Qb h50)) fun j51=>
br b48 (
j51 v32.2.2.1 h36) (
j51 Qb h36))) (a0,(AV.int .i64 a2),AV.nils,(AV.int .i64 a1),()) [] h27)) fun j28=>
br b22 (
j28 Qb h24) (
asI .i64 v23 fun x29=>
fB (ltI (Int.ofNat 1073741824) x29) fun b30=>
j28 (AV.bool b30) h24)) fun j25=>
br b22 (
j25 Qb h18) (
j25 (AV.int .i64 a2) h18)) fun j19=>
br b13 (
j19 Qb h15) (
asI .i64 v14 fun x20=>
fB (ltI x20 (Int.ofNat 0)) fun b21=>
j19 (AV.bool b21) h15)) fun j16=>
br b13 (
j16 Qb h9) (
j16 (AV.int .i64 a2) h9)) fun j10=>
br b4 (
j10 Qb h6) (
asI .i64 v5 fun x11=>
fB (ltI (Int.ofNat 999999) x11) fun b12=>
j10 (AV.bool b12) h6)) fun j7=>
br b4 (
j7 Qb h1) (
j7 (AV.int .i64 a1) h1))
def s6:AV→Int→Int→H→(AV→AV→Int→H→Prop)→Prop:=s6G J0 s17 s18 s19 s20
def w6 (c:AV→Int→Int→H→(AV→AV→Int→H→Prop)→Prop):Fun:=fun xs h k=>arg xs fun a0 xs=>arg xs fun a1 xs=>arg xs fun a2 xs=>QY xs <| asI .i64 a1 fun a1=>asI .i64 a2 fun a2=>c a0 a1 a2 h fun r0 r1 r2 h=>k (.tuple [r0,r1,(.int .i64 r2)]) h
theorem s6_eq (J:Qh) (c17:AV→H→(Int→H→Prop)→Prop) (c18:AV→Int→H→(Bool→H→Prop)→Prop) (c19:AV→Int→AV→H→(AV→Int→H→Prop)→Prop) (c20:AV→H→(Int→H→Prop)→Prop) (a0:AV) (a1:Int) (a2:Int) (h:H) (k:AV→H→Prop):Zl ty (gam J [(17,w17 c17),(18,w18 c18),(19,w19 c19),(20,w20 c20)]) Tryd.f6 [a0,(.int .i64 a1),(.int .i64 a2)] h k=s6G J c17 c18 c19 c20 a0 a1 a2 h (fun r0 r1 r2 h=>k (.tuple [r0,r1,(.int .i64 r2)]) h):=by kernel_rfl
def g6:Fun:=w6 s6
theorem g6_ok:Qt Tryd.prog 6 g6:=(QA QD QE (Qv (J:=J0) (Qc Qcq (Qc g18_ok (Qc g19_ok (Qc g20_ok (Ql Qn)))))) Tryd.func6 (fun args w=>by simp)).imp fun xs h k e0=>by
  obtain ⟨a0,xs0,rfl,e1⟩:=Qf e0
  obtain ⟨a1,xs1,rfl,e2⟩:=Qf e1
  obtain ⟨a2,xs2,rfl,e3⟩:=Qf e2
  obtain ⟨rfl,e4⟩:=Qi e3
  obtain ⟨a1,rfl,e5⟩:=QC.1 e4
  obtain ⟨a2,rfl,e6⟩:=QC.1 e5
  exact (s6_eq J0 s17 s18 s19 s20 a0 a1 a2 h k).mpr e6
def QdQ (J:Qh) (c17:AV→H→(Int→H→Prop)→Prop) (a0:AV) (h:H) (k:Int→H→Prop):Prop :=
nilB 0 a0 fun b1=>
J.jn (fun v2 h3=>
J.jn (fun v5 h6=>
J.jn (fun v8 h9=>
J.jn (fun v12 h13=>
J.jn (fun v16 h17=>
Q3 (AV.bool b1) (AV.bool true) v16 fun b21=>
br b21 (
k (Int.ofNat 1) h17) (
QQ a0 (
faK 3 a0 fun p22=>
ldB p22 h17 fun b23=>
J.jn (fun v24 h25=>
J.jn (fun v27 h28=>
J.jn (fun v30 h31=>
J.jn (fun v34 h35=>
J.jn (fun v38 h39=>
J.jn (fun v43 h44=>
Q3 (AV.bool b23) (AV.bool true) v43 fun b48=>
br b48 (
QQ a0 (
faK 3 a0 fun p49=>
stV p49 (AV.bool true) h44 fun h50=>
k (Int.ofNat 7) h50)) (
k (Int.ofNat 0) h44)) fun j45=>
br b23 (
j45 Qb h39) (
asI .i64 v38 fun x46=>
fB (Bool.not (eqI x46 (Int.ofNat 0))) fun b47=>
j45 (AV.bool b47) h39)) fun j40=>
br b23 (
j40 Qb h35) (
c17 v34 h35 fun x42 h41=>
j40 (AV.int .i64 x42) h41)) fun j36=>
br b23 (
j36 Qb h31) (
ldV v30 h31 fun v37=>
j36 v37 h31)) fun j32=>
br b23 (
j32 Qb h28) (
faK 0 v27 fun p33=>
j32 p33 h28)) fun j29=>
br b23 (
j29 Qb h25) (
QQ v24 (
j29 v24 h25))) fun j26=>
br b23 (
j26 Qb h17) (
j26 a0 h17)))) fun j18=>
br b1 (
j18 Qb h13) (
asB v12 fun b19=>
fB (Bool.not b19) fun b20=>
j18 (AV.bool b20) h13)) fun j14=>
br b1 (
j14 Qb h9) (
ldB v8 h9 fun b15=>
j14 (AV.bool b15) h9)) fun j10=>
br b1 (
j10 Qb h6) (
faK 4 v5 fun p11=>
j10 p11 h6)) fun j7=>
br b1 (
j7 Qb h3) (
QQ v2 (
j7 v2 h3))) fun j4=>
br b1 (
j4 Qb h) (
j4 a0 h)
def s21:AV→H→(Int→H→Prop)→Prop:=QdQ J0 s17
def w21 (c:AV→H→(Int→H→Prop)→Prop):Fun:=fun xs h k=>arg xs fun a0 xs=>QY xs <| c a0 h fun r0 h=>k (.int .i64 r0) h
theorem s21_eq (J:Qh) (c17:AV→H→(Int→H→Prop)→Prop) (a0:AV) (h:H) (k:AV→H→Prop):Zl ty (gam J [(17,w17 c17)]) Tryd.f21 [a0] h k=QdQ J c17 a0 h (fun r0 h=>k (.int .i64 r0) h):=by kernel_rfl
def g21:Fun:=w21 s21
theorem Qe6:Qt Tryd.prog 21 g21:=(QA QD QE (Qv (J:=J0) (Qc Qcq (Ql Qn))) Tryd.func21 (fun args w=>by simp)).imp fun xs h k e0=>by
  obtain ⟨a0,xs0,rfl,e1⟩:=Qf e0
  obtain ⟨rfl,e2⟩:=Qi e1
  exact (s21_eq J0 s17 a0 h k).mpr e2
def Qaj (J:Qh) (a0:AV) (a1:Int) (h:H) (k:AV→H→Prop):Prop :=
apB (.slice 5) 5 AV.nils a0 h fun v1 h2=>
J.lp (α:=AV × AV × Unit) (fun r6 v3 d4 h5=>
asI .u64 v3.1 fun x7=>
fB (Bool.not (ltI x7 (Int.ofNat 128))) fun b8=>
br b8 (
asI .u64 v3.1 fun x9=>
fI (Qd .u8 x9) fun x10=>
fI (Uv .u8 x10 (Int.ofNat 128)) fun x11=>
op' (Wd true 5 [(AV.int .u8 x11)]) fun k14=>
Qz k14 h5 fun n12 h13=>
apB (.slice 5) 5 v3.2.1 (AV.slice n12 0 1 1 1 true) h13 fun v15 h16=>
asI .u64 v3.1 fun x17=>
fI (Ve x17 (Y2 7 (IntKind.bits .u64))) fun x18=>
r6 ((AV.int .u64 x18),v15,()) d4 h16) (
asI .u64 v3.1 fun x19=>
fI (Qd .u8 x19) fun x20=>
op' (Wd true 5 [(AV.int .u8 x20)]) fun k23=>
Qz k23 h5 fun n21 h22=>
apB (.slice 5) 5 v3.2.1 (AV.slice n21 0 1 1 1 true) h22 fun v24 h25=>
Qu (gam J []) d4 h25 fun h26=>
k v24 h26)) ((AV.int .u64 a1),v1,()) [] h2
def s38:AV→Int→H→(AV→H→Prop)→Prop:=Qaj J0
def w38 (c:AV→Int→H→(AV→H→Prop)→Prop):Fun:=fun xs h k=>arg xs fun a0 xs=>arg xs fun a1 xs=>QY xs <| asI .u64 a1 fun a1=>c a0 a1 h fun r0 h=>k r0 h
theorem s38_eq (J:Qh) (a0:AV) (a1:Int) (h:H) (k:AV→H→Prop):Zl ty (gam J []) Tryd.f38 [a0,(.int .u64 a1)] h k=Qaj J  a0 a1 h (fun r0 h=>k r0 h):=by kernel_rfl
def g38:Fun:=w38 s38
theorem QeX:Qt Tryd.prog 38 g38:=(QA QD QE (Qv (J:=J0) (Ql Qn)) Tryd.func38 (fun args w=>by simp)).imp fun xs h k e0=>by
  obtain ⟨a0,xs0,rfl,e1⟩:=Qf e0
  obtain ⟨a1,xs1,rfl,e2⟩:=Qf e1
  obtain ⟨rfl,e3⟩:=Qi e2
  obtain ⟨a1,rfl,e4⟩:=QC.1 e3
  exact (s38_eq J0  a0 a1 h k).mpr e4
def QdO (J:Qh) (c38:AV→Int→H→(AV→H→Prop)→Prop) (a0:AV) (a1:Str) (h:H) (k:AV→H→Prop):Prop :=
fI (Qd .u64 (Int.ofNat a1.len)) fun x1=>
c38 a0 x1 h fun v3 h2=>
apB .str 5 v3 (AV.str a1) h2 fun v4 h5=>
k v4 h5
def s39:AV→Str→H→(AV→H→Prop)→Prop:=QdO J0 s38
def w39 (c:AV→Str→H→(AV→H→Prop)→Prop):Fun:=fun xs h k=>arg xs fun a0 xs=>arg xs fun a1 xs=>QY xs <| asS a1 fun a1=>c a0 a1 h fun r0 h=>k r0 h
theorem s39_eq (J:Qh) (c38:AV→Int→H→(AV→H→Prop)→Prop) (a0:AV) (a1:Str) (h:H) (k:AV→H→Prop):Zl ty (gam J [(38,w38 c38)]) Tryd.f39 [a0,(.str a1)] h k=QdO J c38 a0 a1 h (fun r0 h=>k r0 h):=by kernel_rfl
def g39:Fun:=w39 s39
theorem g39_ok:Qt Tryd.prog 39 g39:=(QA QD QE (Qv (J:=J0) (Qc QeX (Ql Qn))) Tryd.func39 (fun args w=>by simp)).imp fun xs h k e0=>by
  obtain ⟨a0,xs0,rfl,e1⟩:=Qf e0
  obtain ⟨a1,xs1,rfl,e2⟩:=Qf e1
  obtain ⟨rfl,e3⟩:=Qi e2
  obtain ⟨a1,rfl,e4⟩:=ZJ.1 e3
  exact (s39_eq J0 s38 a0 a1 h k).mpr e4
def Qei (J:Qh) (c9:AV→H→(Int→H→Prop)→Prop) (c38:AV→Int→H→(AV→H→Prop)→Prop) (c39:AV→Str→H→(AV→H→Prop)→Prop) (a0:AV) (h:H) (k:AV→Int→H→Prop):Prop :=
Go.Am.asAgg a0 fun l3=>
Qz (.cells false 62 l3) h fun n1 h2=>
ldI .i64 (AV.ptr n1 0) h2 fun x4=>
fB (ltI x4 (Int.ofNat 1)) fun b5=>
J.jn (fun v6 h7=>
J.jn (fun v9 h10=>
J.jn (fun v13 h14=>
Q3 (AV.bool b5) (AV.bool true) v13 fun b18=>
br b18 (
k AV.nils (Int.ofNat 2) h14) (
ldV (AV.ptr n1 1) h14 fun v19=>
c9 v19 h14 fun x21 h20=>
fB (Bool.not (eqI x21 (Int.ofNat 0))) fun b22=>
br b22 (
k AV.nils x21 h20) (
ldI .i64 (AV.ptr n1 0) h20 fun x23=>
fI (Qd .u64 x23) fun x24=>
c38 AV.nils x24 h20 fun v26 h25=>
ldV (AV.ptr n1 1) h25 fun v27=>
ZH v27 fun x28=>
fI (Qd .u64 (Int.ofNat x28)) fun x29=>
c38 v26 x29 h25 fun v31 h30=>
ldV (AV.ptr n1 1) h30 fun v32=>
ZH v32 fun x33=>
J.lp (α:=AV × AV × AV × AV × Unit) (fun r37 v34 d35 h36=>
asI .i64 v34.2.2.2.1 fun x38=>
asI .i64 v34.2.2.1 fun x39=>
fB (ltI x38 x39) fun b40=>
br b40 (
J.jd (α:=AV × AV × AV × AV × Unit) (fun v41 d42 h43=>
asI .i64 v41.2.2.2.1 fun x45=>
fI (Qd .i64 (Int.add x45 (Int.ofNat 1))) fun x46=>
r37 (v41.1,v41.2.1,v41.2.2.1,(AV.int .i64 x46),()) d42 h43) fun j44=>
ixK 3 v34.2.1 v34.2.2.2.1 fun p47=>
ldN 3 p47 h36 fun l48=>
Qz (.cells false 48 [(.str ⟨0,0⟩),(.str ⟨0,0⟩),(.bool false)]) h36 fun n49 h50=>
stN 3 (AV.ptr n49 0) l48 h50 fun h51=>
ldB (AV.ptr n49 2) h51 fun b52=>
br b52 (
op' (Wd true 5 [(AV.int .u8 (Int.ofNat 1))]) fun k55=>
Qz k55 h51 fun n53 h54=>
ldS (AV.ptr n49 0) h54 fun s56=>
apB (.slice 5) 5 v34.1 (AV.slice n53 0 1 1 1 true) h54 fun v57 h58=>
ck (Zz (Zn (AV.ptr n49 0) h58) (AV.str s56)) (
c39 v57 s56 h58 fun v60 h59=>
j44 (v60,v34.2.1,v34.2.2.1,v34.2.2.2.1,()) d35 h59)) (
op' (Wd true 5 [(AV.int .u8 (Int.ofNat 0))]) fun k63=>
Qz k63 h51 fun n61 h62=>
ldS (AV.ptr n49 0) h62 fun s64=>
apB (.slice 5) 5 v34.1 (AV.slice n61 0 1 1 1 true) h62 fun v65 h66=>
ck (Zz (Zn (AV.ptr n49 0) h66) (AV.str s64)) (
c39 v65 s64 h66 fun v68 h67=>
ldS (AV.ptr n49 1) h67 fun s69=>
c39 v68 s69 h67 fun v71 h70=>
j44 (v71,v34.2.1,v34.2.2.1,v34.2.2.2.1,()) d35 h70))) (
Qu (gam J [(9,w9 c9),(38,w38 c38),(39,w39 c39)]) d35 h36 fun h72=>
k v34.1 (Int.ofNat 0) h72)) (v31,v32,(AV.int .i64 (Int.ofNat x33)),(AV.int .i64 (Int.ofNat 0)),()) [] h30))) fun j15=>
br b5 (
j15 Qb h10) (
asI .i64 v9 fun x16=>
fB (ltI (Int.ofNat 1073741824) x16) fun b17=>
j15 (AV.bool b17) h10)) fun j11=>
br b5 (
j11 Qb h7) (
ldI .i64 v6 h7 fun x12=>
j11 (AV.int .i64 x12) h7)) fun j8=>
br b5 (
j8 Qb h2) (
j8 (AV.ptr n1 0) h2)
def s22:AV→H→(AV→Int→H→Prop)→Prop:=Qei J0 s9 s38 s39
def w22 (c:AV→H→(AV→Int→H→Prop)→Prop):Fun:=fun xs h k=>arg xs fun a0 xs=>QY xs <| c a0 h fun r0 r1 h=>k (.tuple [r0,(.int .i64 r1)]) h
theorem s22_eq (J:Qh) (c9:AV→H→(Int→H→Prop)→Prop) (c38:AV→Int→H→(AV→H→Prop)→Prop) (c39:AV→Str→H→(AV→H→Prop)→Prop) (a0:AV) (h:H) (k:AV→H→Prop):Zl ty (gam J [(9,w9 c9),(38,w38 c38),(39,w39 c39)]) Tryd.f22 [a0] h k=Qei J c9 c38 c39 a0 h (fun r0 r1 h=>k (.tuple [r0,(.int .i64 r1)]) h):=by kernel_rfl
def g22:Fun:=w22 s22
theorem Qe5:Qt Tryd.prog 22 g22:=(QA QD QE (Qv (J:=J0) (Qc QbI (Qc QeX (Qc g39_ok (Ql Qn))))) Tryd.func22 (fun args w=>by simp)).imp fun xs h k e0=>by
  obtain ⟨a0,xs0,rfl,e1⟩:=Qf e0
  obtain ⟨rfl,e2⟩:=Qi e1
  exact (s22_eq J0 s9 s38 s39 a0 h k).mpr e2
def Qeh (J:Qh) (c40:AV→H→(AV→H→Prop)→Prop) (a0:AV) (a1:AV) (h:H) (k:AV→Int→H→Prop):Prop :=
ZH a1 fun x1=>
fB (ltI (Int.ofNat 1048576) (Int.ofNat x1)) fun b2=>
br b2 (
k AV.nils (Int.ofNat 3) h) (
apB (.slice 5) 5 AV.nils a0 h fun v3 h4=>
fI (Qd .u8 (Int.ofNat x1)) fun x5=>
fI (Ve (Int.ofNat x1) (Y2 8 (IntKind.bits .i64))) fun x6=>
fI (Qd .u8 x6) fun x7=>
fI (Ve (Int.ofNat x1) (Y2 16 (IntKind.bits .i64))) fun x8=>
fI (Qd .u8 x8) fun x9=>
fI (Ve (Int.ofNat x1) (Y2 24 (IntKind.bits .i64))) fun x10=>
fI (Qd .u8 x10) fun x11=>
op' (Wd true 5 [(AV.int .u8 x5),(AV.int .u8 x7),(AV.int .u8 x9),(AV.int .u8 x11)]) fun k14=>
Qz k14 h4 fun n12 h13=>
c40 (AV.slice n12 0 4 4 1 true) h13 fun v16 h15=>
apB (.slice 5) 5 v3 v16 h15 fun v17 h18=>
c40 a1 h18 fun v20 h19=>
apB (.slice 5) 5 v17 v20 h19 fun v21 h22=>
k v21 (Int.ofNat 0) h22)
def s23:AV→AV→H→(AV→Int→H→Prop)→Prop:=Qeh J0 s40
def w23 (c:AV→AV→H→(AV→Int→H→Prop)→Prop):Fun:=fun xs h k=>arg xs fun a0 xs=>arg xs fun a1 xs=>QY xs <| c a0 a1 h fun r0 r1 h=>k (.tuple [r0,(.int .i64 r1)]) h
theorem s23_eq (J:Qh) (c40:AV→H→(AV→H→Prop)→Prop) (a0:AV) (a1:AV) (h:H) (k:AV→H→Prop):Zl ty (gam J [(40,w40 c40)]) Tryd.f23 [a0,a1] h k=Qeh J c40 a0 a1 h (fun r0 r1 h=>k (.tuple [r0,(.int .i64 r1)]) h):=by kernel_rfl
def g23:Fun:=w23 s23
theorem Qe4:Qt Tryd.prog 23 g23:=(QA QD QE (Qv (J:=J0) (Qc QeW (Ql Qn))) Tryd.func23 (fun args w=>by simp)).imp fun xs h k e0=>by
  obtain ⟨a0,xs0,rfl,e1⟩:=Qf e0
  obtain ⟨a1,xs1,rfl,e2⟩:=Qf e1
  obtain ⟨rfl,e3⟩:=Qi e2
  exact (s23_eq J0 s40 a0 a1 h k).mpr e3
def s43G (J:Qh) (c31:AV→H→(AV→H→Prop)→Prop) (c48:AV→AV→H→(Int→H→Prop)→Prop) (a0:AV) (h:H) (k:Int→H→Prop):Prop :=
c48 a0 AV.nils h fun x2 h1=>
fB (Bool.not (eqI x2 (Int.ofNat 0))) fun b3=>
br b3 (
k (Int.ofNat 0) h1) (
QQ a0 (
faK 3 a0 fun p4=>
ldI .i64 p4 h1 fun x5=>
Qz (.cells false 53 [(.nilm),(.nilm)]) h1 fun n6 h7=>
c31 a0 h7 fun v9 h8=>
ck (Zz (Zn p4 h8) (AV.int .i64 x5)) (
Go.Am.asAgg v9 fun l11=>
stN 2 (AV.ptr n6 0) l11 h8 fun h10=>
ck (Zz (Zn p4 h10) (AV.int .i64 x5)) (
ldV (AV.ptr n6 1) h10 fun v12=>
VN v12 h10 fun v13 h14=>
J.lp (α:=AV × AV × AV × Unit) (fun r18 v15 d16 h17=>
JT v15.2.2.1 h17 fun v19 h20=>
asTup v19 fun l21=>
op' (Q8 l21 0) fun v22=>
asB v22 fun b23=>
br b23 (
op' (VU v15.2.2.1 h20) fun v24=>
asTup v24 fun l25=>
op' (Q8 l25 1) fun v26=>
asI .i64 v26 fun x27=>
faK 0 v15.1 fun p28=>
ldV p28 h20 fun v29=>
op' (Q5 ty 3 39 false v29 (AV.int .i64 x27) h20) fun v30=>
ZH v30 fun x31=>
asI .i64 v15.2.1 fun x32=>
fI (Qd .i64 (Int.sub x32 (Int.ofNat x31))) fun x33=>
r18 (v15.1,(AV.int .i64 x33),v15.2.2.1,()) d16 h20) (
Qu (gam J [(31,w31 c31),(48,w48 c48)]) d16 h20 fun h34=>
asI .i64 v15.2.1 fun x35=>
k x35 h34)) ((AV.ptr n6 0),(AV.int .i64 x5),v13,()) [] h14))))
def w43 (c:AV→H→(Int→H→Prop)→Prop):Fun:=fun xs h k=>arg xs fun a0 xs=>QY xs <| c a0 h fun r0 h=>k (.int .i64 r0) h
theorem s43_eq (J:Qh) (c31:AV→H→(AV→H→Prop)→Prop) (c48:AV→AV→H→(Int→H→Prop)→Prop) (a0:AV) (h:H) (k:AV→H→Prop):Zl ty (gam J [(31,w31 c31),(48,w48 c48)]) Tryd.f43 [a0] h k=s43G J c31 c48 a0 h (fun r0 h=>k (.int .i64 r0) h):=by kernel_rfl
end Go.Proofs.YtfgdelkdmdmfgaaDoor
