import Derived.Test.YtbcfpeelkaoljaaDoorAmS0
noncomputable section
namespace Go.Proofs.YtbcfpeelkaoljaaDoor
open Go Go.Am
set_option linter.all false
def g60':Fun:=fun l h k=>match l with
  | [.ptr b o,n]=>ck (Nat.ble h.base b) (g60 [.ptr b o,n] h fun r h1=>ZN (h1.get b) (fun m t cs=>op' (Q3 cs (Nat.succ o)) fun s=>Z9 b (.cells m t (XJ cs (Nat.succ o) (cutS s))) h1 fun h2=>k r h2) fun _ _ _ _=>False)
  | _=>False
theorem g60'_ok : Qp Tryd.prog 60 g60' := g60_ok.up0.weak.imp fun l h k q => by
  unfold g60' at q
  split at q
  · rename_i b o n
    rw [QC,Qh] at q
    obtain ⟨hb,q⟩:=q
    refine ⟨hb,_,q,fun r h1 q=>?_⟩
    rw [Q9] at q
    rcases q with ⟨m,t,cs,hg,q⟩ | ⟨_,_,_,_,_,q⟩
    · rw [QO] at q
      obtain ⟨s,hs,q⟩:=q
      rw [Zo] at q
      obtain ⟨h2,p2,q⟩:=q
      obtain ⟨_,_,n2,b2,g2⟩:=Z8 p2
      refine ⟨h2,⟨n2,b2,fun id e=>by rw [g2,if_neg e],m,t,cs,_,hg,by rw [g2,if_pos rfl],fun i a' ha=>?_⟩,q⟩
      rw [YX] at ha
      rw [Vp] at hs
      by_cases e:Nat.succ o=i
      · subst e
        have hl:Nat.succ o < cs.length:=by
          rw [List.getElem?_eq_some_iff] at hs;exact hs.1
        rw [List.getElem?_set_self hl] at ha
        injection ha with ha
        exact ⟨s,hs,.inr ha.symm⟩
      · rw [List.getElem?_set_ne e] at ha
        exact ⟨a',ha,.inl rfl⟩
    · exact q.elim
  · exact q.elim
end Go.Proofs.YtbcfpeelkaoljaaDoor
namespace Go.Proofs.YtbcfpeelkaoljaaDoor
open Go Go.Am
set_option maxRecDepth 100000
set_option linter.all false
def g61:Fun:=Y9 ty (gam J0 [(75,g75)]) Tryd.f61
theorem g61_ok:Qp Tryd.prog 61 g61:=Yd QF QG (Qu (J:=J0) (Qb Qe3 (Qn Qo))) Tryd.func61 (fun args w=>by simp)
def g63:Fun:=Y9 ty (gam J0 []) Tryd.f63
theorem g63_ok:Qp Tryd.prog 63 g63:=Yd QF QG (Qu (J:=J0) (Qn Qo)) Tryd.func63 (fun args w=>by simp)
def g43:Fun:=Y9 ty (gam J0 [(58,g58),(59,g59),(60,g60'),(61,g61),(63,g63)]) Tryd.f43
theorem Qfc:Qp Tryd.prog 43 g43:=Yd QF QG (Qu (J:=J0) (Qb g58_ok (Qb g59_ok (Qb g60'_ok (Qb g61_ok (Qb g63_ok (Qn Qo))))))) Tryd.func43 (fun args w=>by simp)
def Qev (J:Qg) (c42:Int→H→(Str→H→Prop)→Prop) (c43:Fun) (a0:Int) (h:H) (k:Str→Int→H→Prop):Prop :=
fB (ltI a0 (Int.ofNat 1)) fun b1=>
J.jn (fun v2 h3=>
J.jn (fun v5 h6=>
QY (AV.bool b1) (AV.bool true) v5 fun b10=>
br b10 (
k ⟨0,0⟩ (Int.ofNat 2) h6) (
c42 a0 h6 fun s12 h11=>
fI (Qc .i64 (Int.sub (Int.ofNat 6) (Int.ofNat s12.len))) fun x13=>
c43 [(AV.str ⟨1,48⟩),(AV.int .i64 x13)] h11 fun v14 h15=>
asS v14 fun s16=>
ck (Nat.ble (Nat.add (⟨4,2002873389⟩:Str).len s16.len) 9223372036854775807) (fS (Str.cat (⟨4,2002873389⟩:Str) s16) fun s17=>
ck (Nat.ble (Nat.add s17.len s12.len) 9223372036854775807) (fS (Str.cat s17 s12) fun s18=>
k s18 (Int.ofNat 0) h15)))) fun j7=>
br b1 (
j7 Qa h3) (
asI .i64 v2 fun x8=>
fB (ltI (Int.ofNat 999999) x8) fun b9=>
j7 (AV.bool b9) h3)) fun j4=>
br b1 (
j4 Qa h) (
j4 (AV.int .i64 a0) h)
def s26:Int→H→(Str→Int→H→Prop)→Prop:=Qev J0 s42 g43
def w26 (c:Int→H→(Str→Int→H→Prop)→Prop):Fun:=fun xs h k=>arg xs fun a0 xs=>QV xs <| asI .i64 a0 fun a0=>c a0 h fun r0 r1 h=>k (.tuple [(.str r0),(.int .i64 r1)]) h
theorem Qeu (J:Qg) (c42:Int→H→(Str→H→Prop)→Prop) (c43:Fun) (a0:Int) (h:H) (k:AV→H→Prop):Zk ty (gam J [(42,w42 c42),(43,c43)]) Tryd.f26 [(.int .i64 a0)] h k=Qev J c42 c43 a0 h (fun r0 r1 h=>k (.tuple [(.str r0),(.int .i64 r1)]) h):=by kernel_rfl
def g26:Fun:=w26 s26
theorem QaG:Qp Tryd.prog 26 g26:=(Qz QF QG (Qu (J:=J0) (Qb Qfd (Qb Qfc (Qn Qo)))) Tryd.func26 (fun args w=>by simp)).imp fun xs h k e0=>by
  obtain ⟨a0,xs0,rfl,e1⟩:=Qf e0
  obtain ⟨rfl,e2⟩:=Qj e1
  obtain ⟨a0,rfl,e3⟩:=QI.1 e2
  exact (Qeu J0 s42 g43 a0 h k).mpr e3
def Qbn (J:Qg) (c26:Int→H→(Str→Int→H→Prop)→Prop) (c32:AV→Str→H→(AV→Int→H→Prop)→Prop) (a0:AV) (a1:Int) (h:H) (k:Bool→H→Prop):Prop :=
c26 a1 h fun s2 x3 h1=>
fB (Bool.not (eqI x3 (Int.ofNat 0))) fun b4=>
br b4 (
k false h1) (
c32 a0 s2 h1 fun v6 x7 h5=>
fB (eqI x7 (Int.ofNat 0)) fun b8=>
k b8 h5)
def s18:AV→Int→H→(Bool→H→Prop)→Prop:=Qbn J0 s26 s32
def w18 (c:AV→Int→H→(Bool→H→Prop)→Prop):Fun:=fun xs h k=>arg xs fun a0 xs=>arg xs fun a1 xs=>QV xs <| asI .i64 a1 fun a1=>c a0 a1 h fun r0 h=>k (.bool r0) h
theorem QeB (J:Qg) (c26:Int→H→(Str→Int→H→Prop)→Prop) (c32:AV→Str→H→(AV→Int→H→Prop)→Prop) (a0:AV) (a1:Int) (h:H) (k:AV→H→Prop):Zk ty (gam J [(26,w26 c26),(32,w32 c32)]) Tryd.f18 [a0,(.int .i64 a1)] h k=Qbn J c26 c32 a0 a1 h (fun r0 h=>k (.bool r0) h):=by kernel_rfl
def g18:Fun:=w18 s18
theorem g18_ok:Qp Tryd.prog 18 g18:=(Qz QF QG (Qu (J:=J0) (Qb QaG (Qb NF (Qn Qo)))) Tryd.func18 (fun args w=>by simp)).imp fun xs h k e0=>by
  obtain ⟨a0,xs0,rfl,e1⟩:=Qf e0
  obtain ⟨a1,xs1,rfl,e2⟩:=Qf e1
  obtain ⟨rfl,e3⟩:=Qj e2
  obtain ⟨a1,rfl,e4⟩:=QI.1 e3
  exact (QeB J0 s26 s32 a0 a1 h k).mpr e4
def Xq (J:Qg) (a0:Int) (a1:AV) (h:H) (k:Int→H→Prop):Prop :=
op' (aUn .xor (AV.int .u32 a0)) fun v1=>
asI .u32 v1 fun x2=>
Zi a1 fun x3=>
J.lp (α:=AV × AV × AV × AV × Unit) (fun r7 v4 d5 h6=>
asI .i64 v4.2.2.2.1 fun x8=>
asI .i64 v4.2.2.1 fun x9=>
fB (ltI x8 x9) fun b10=>
br b10 (
ixK 1 v4.2.1 v4.2.2.2.1 fun p11=>
ldI .u8 p11 h6 fun x12=>
fI (Qc .u32 x12) fun x13=>
asI .u32 v4.1 fun x14=>
fI (Nv .u32 x14 x13) fun x15=>
J.lp (α:=AV × AV × AV × AV × AV × Unit) (fun r19 v16 d17 h18=>
asI .i64 v16.2.2.2.2.1 fun x20=>
fB (ltI x20 (Int.ofNat 8)) fun b21=>
br b21 (
J.jd (α:=AV × AV × AV × AV × AV × Unit) (fun v22 d23 h24=>
asI .i64 v22.2.2.2.2.1 fun x26=>
fI (Qc .i64 (Int.add x26 (Int.ofNat 1))) fun x27=>
r19 (v22.1,v22.2.1,v22.2.2.1,v22.2.2.2.1,(AV.int .i64 x27),()) d23 h24) fun j25=>
asI .u32 v16.1 fun x28=>
fI (QeV .u32 x28 (Int.ofNat 1)) fun x29=>
asI .u32 v16.1 fun x30=>
fI (Uo x30 (Vl 1 (IntKind.bits .u32))) fun x31=>
fB (eqI x29 (Int.ofNat 1)) fun b32=>
br b32 (
fI (Nv .u32 x31 (Int.ofNat 2197175160)) fun x33=>
j25 ((AV.int .u32 x33),v16.2.1,v16.2.2.1,v16.2.2.2.1,v16.2.2.2.2.1,()) d17 h18) (
j25 ((AV.int .u32 x31),v16.2.1,v16.2.2.1,v16.2.2.2.1,v16.2.2.2.2.1,()) d17 h18)) (
asI .i64 v16.2.2.2.1 fun x34=>
fI (Qc .i64 (Int.add x34 (Int.ofNat 1))) fun x35=>
r7 (v16.1,v16.2.1,v16.2.2.1,(AV.int .i64 x35),()) d17 h18)) ((AV.int .u32 x15),v4.2.1,v4.2.2.1,v4.2.2.2.1,(AV.int .i64 (Int.ofNat 0)),()) d5 h6) (
op' (aUn .xor v4.1) fun v36=>
asI .u32 v36 fun x37=>
Qr (gam J []) d5 h6 fun h38=>
k x37 h38)) ((AV.int .u32 x2),a1,(AV.int .i64 (Int.ofNat x3)),(AV.int .i64 (Int.ofNat 0)),()) [] h
def s70:Int→AV→H→(Int→H→Prop)→Prop:=Xq J0
def w70 (c:Int→AV→H→(Int→H→Prop)→Prop):Fun:=fun xs h k=>arg xs fun a0 xs=>arg xs fun a1 xs=>QV xs <| asI .u32 a0 fun a0=>c a0 a1 h fun r0 h=>k (.int .u32 r0) h
theorem s70_eq (J:Qg) (a0:Int) (a1:AV) (h:H) (k:AV→H→Prop):Zk ty (gam J []) Tryd.f70 [(.int .u32 a0),a1] h k=Xq J  a0 a1 h (fun r0 h=>k (.int .u32 r0) h):=by kernel_rfl
def g70:Fun:=w70 s70
theorem g70_ok:Qp Tryd.prog 70 g70:=(Qz QF QG (Qu (J:=J0) (Qn Qo)) Tryd.func70 (fun args w=>by simp)).imp fun xs h k e0=>by
  obtain ⟨a0,xs0,rfl,e1⟩:=Qf e0
  obtain ⟨a1,xs1,rfl,e2⟩:=Qf e1
  obtain ⟨rfl,e3⟩:=Qj e2
  obtain ⟨a0,rfl,e4⟩:=QI.1 e3
  exact (s70_eq J0  a0 a1 h k).mpr e4
def G8 (J:Qg) (c70:Int→AV→H→(Int→H→Prop)→Prop) (a0:AV) (h:H) (k:Int→H→Prop):Prop :=
c70 (Int.ofNat 0) a0 h fun x2 h1=>
k x2 h1
def s56:AV→H→(Int→H→Prop)→Prop:=G8 J0 s70
def w56 (c:AV→H→(Int→H→Prop)→Prop):Fun:=fun xs h k=>arg xs fun a0 xs=>QV xs <| c a0 h fun r0 h=>k (.int .u32 r0) h
theorem s56_eq (J:Qg) (c70:Int→AV→H→(Int→H→Prop)→Prop) (a0:AV) (h:H) (k:AV→H→Prop):Zk ty (gam J [(70,w70 c70)]) Tryd.f56 [a0] h k=G8 J c70 a0 h (fun r0 h=>k (.int .u32 r0) h):=by kernel_rfl
def g56:Fun:=w56 s56
theorem g56_ok:Qp Tryd.prog 56 g56:=(Qz QF QG (Qu (J:=J0) (Qb g70_ok (Qn Qo))) Tryd.func56 (fun args w=>by simp)).imp fun xs h k e0=>by
  obtain ⟨a0,xs0,rfl,e1⟩:=Qf e0
  obtain ⟨rfl,e2⟩:=Qj e1
  exact (s56_eq J0 s70 a0 h k).mpr e2
def G9 (J:Qg) (c56:AV→H→(Int→H→Prop)→Prop) (a0:AV) (h:H) (k:AV→H→Prop):Prop :=
apB (.slice 5) 5 AV.nils a0 h fun v1 h2=>
c56 a0 h2 fun x4 h3=>
J.lp (α:=AV × AV × AV × Unit) (fun r8 v5 d6 h7=>
asI .i64 v5.2.2.1 fun x9=>
fB (ltI x9 (Int.ofNat 4)) fun b10=>
br b10 (
asI .i64 v5.2.2.1 fun x11=>
fI (Qc .i64 (Int.mul (Int.ofNat 8) x11)) fun x12=>
asI .u32 v5.2.1 fun x13=>
Wo (AV.int .i64 x12) fun n14=>
fI (Uo x13 (Vl n14 (IntKind.bits .u32))) fun x15=>
fI (Qc .u8 x15) fun x16=>
op' (Wc true 5 [(AV.int .u8 x16)]) fun k19=>
Qw k19 h7 fun n17 h18=>
apB (.slice 5) 5 v5.1 (AV.slice n17 0 1 1 1 true) h18 fun v20 h21=>
asI .i64 v5.2.2.1 fun x22=>
fI (Qc .i64 (Int.add x22 (Int.ofNat 1))) fun x23=>
r8 (v20,v5.2.1,(AV.int .i64 x23),()) d6 h21) (
Qr (gam J [(56,w56 c56)]) d6 h7 fun h24=>
k v5.1 h24)) (v1,(AV.int .u32 x4),(AV.int .i64 (Int.ofNat 0)),()) [] h3
def s41:AV→H→(AV→H→Prop)→Prop:=G9 J0 s56
def w41 (c:AV→H→(AV→H→Prop)→Prop):Fun:=fun xs h k=>arg xs fun a0 xs=>QV xs <| c a0 h fun r0 h=>k r0 h
theorem s41_eq (J:Qg) (c56:AV→H→(Int→H→Prop)→Prop) (a0:AV) (h:H) (k:AV→H→Prop):Zk ty (gam J [(56,w56 c56)]) Tryd.f41 [a0] h k=G9 J c56 a0 h (fun r0 h=>k r0 h):=by kernel_rfl
def g41:Fun:=w41 s41
theorem Qfe:Qp Tryd.prog 41 g41:=(Qz QF QG (Qu (J:=J0) (Qb g56_ok (Qn Qo))) Tryd.func41 (fun args w=>by simp)).imp fun xs h k e0=>by
  obtain ⟨a0,xs0,rfl,e1⟩:=Qf e0
  obtain ⟨rfl,e2⟩:=Qj e1
  exact (s41_eq J0 s56 a0 h k).mpr e2
def Qbi (J:Qg) (c41:AV→H→(AV→H→Prop)→Prop) (a0:AV) (h:H) (k:AV→Bool→H→Prop):Prop :=
Zi a0 fun x1=>
fI (Qc .i64 (Int.sub (Int.ofNat x1) (Int.ofNat 4))) fun x2=>
fB (ltI x2 (Int.ofNat 0)) fun b3=>
J.jn (fun v4 h5=>
J.jn (fun v7 h8=>
J.jn (fun v10 h11=>
J.jn (fun v14 h15=>
J.jb (fun b17 v18=>
J.jn (fun v21 h22=>
ck (Bool.rec (motive:=fun _=>Bool) true (Zz (UG v14 h22) v18) b17) (
J.jb (fun b26 v27=>
J.jn (fun v30 h31=>
QY (AV.bool b3) (AV.bool true) v30 fun b36=>
br b36 (
k AV.nils false h31) (
slK 1 a0 none (some (AV.int .i64 x2)) fun v37=>
apB (.slice 5) 5 AV.nils v37 h31 fun v38 h39=>
k v38 true h39)) fun j32=>
br b3 (
j32 Qa h22) (
asS v27 fun s33=>
asS v18 fun s34=>
fB (Bool.not (Str.beq s33 s34)) fun b35=>
j32 (AV.bool b35) h22)) fun j28=>
br b3 (
j28 false Qa) (
Y0 v21 h22 fun s29=>
j28 true (AV.str s29)))) fun j23=>
br b3 (
j23 Qa h15) (
c41 v10 h15 fun v25 h24=>
j23 v25 h24)) fun j19=>
br b3 (
j19 false Qa) (
Y0 v14 h15 fun s20=>
j19 true (AV.str s20))) fun j16=>
br b3 (
j16 Qa h11) (
j16 a0 h11)) fun j12=>
br b3 (
j12 Qa h8) (
slK 1 v4 none (some v7) fun v13=>
j12 v13 h8)) fun j9=>
br b3 (
j9 Qa h5) (
j9 (AV.int .i64 x2) h5)) fun j6=>
br b3 (
j6 Qa h) (
j6 a0 h)
def s68:AV→H→(AV→Bool→H→Prop)→Prop:=Qbi J0 s41
def w68 (c:AV→H→(AV→Bool→H→Prop)→Prop):Fun:=fun xs h k=>arg xs fun a0 xs=>QV xs <| c a0 h fun r0 r1 h=>k (.tuple [r0,(.bool r1)]) h
theorem s68_eq (J:Qg) (c41:AV→H→(AV→H→Prop)→Prop) (a0:AV) (h:H) (k:AV→H→Prop):Zk ty (gam J [(41,w41 c41)]) Tryd.f68 [a0] h k=Qbi J c41 a0 h (fun r0 r1 h=>k (.tuple [r0,(.bool r1)]) h):=by kernel_rfl
def g68:Fun:=w68 s68
theorem Qe4:Qp Tryd.prog 68 g68:=(Qz QF QG (Qu (J:=J0) (Qb Qfe (Qn Qo))) Tryd.func68 (fun args w=>by simp)).imp fun xs h k e0=>by
  obtain ⟨a0,xs0,rfl,e1⟩:=Qf e0
  obtain ⟨rfl,e2⟩:=Qj e1
  exact (s68_eq J0 s41 a0 h k).mpr e2
def g52:Fun:=Y9 ty (gam J0 [(68,g68)]) Tryd.f52
theorem g52_ok:Qp Tryd.prog 52 g52:=Yd QF QG (Qu (J:=J0) (Qb Qe4 (Qn Qo))) Tryd.func52 (fun args w=>by simp)
def Qet (J:Qg) (c52:Fun) (a0:AV) (h:H) (k:AV→Int→Int→H→Prop):Prop :=
J.jd (α:=AV × AV × Unit) (fun v1 d2 h3=>
Qr (gam J [(52,c52)]) d2 h3 fun h5=>
asI .i64 v1.2.1 fun x6=>
k v1.1 x6 (Int.ofNat 0) h5) fun j4=>
J.lp (α:=AV × AV × AV × Unit) (fun r10 v7 d8 h9=>
Zi v7.1 fun x11=>
asI .i64 v7.2.2.1 fun x12=>
fB (ltI x12 (Int.ofNat x11)) fun b13=>
br b13 (
slK 1 v7.1 (some v7.2.2.1) none fun v14=>
c52 [v14] h9 fun v15 h16=>
asTup v15 fun l17=>
op' (Q3 l17 0) fun v18=>
asTup v15 fun l19=>
op' (Q3 l19 1) fun v20=>
asI .i64 v20 fun x21=>
asTup v15 fun l22=>
op' (Q3 l22 2) fun v23=>
asI .i64 v23 fun x24=>
fB (eqI x24 (Int.ofNat 0)) fun b25=>
br b25 (
ck (Zv v18) (Qw (.cells false 64 [v18]) h16 fun n26 h27=>
apC 64 1 24 v7.2.1 (AV.slice n26 0 1 1 1 true) h27 fun v28 h29=>
asI .i64 v7.2.2.1 fun x30=>
fI (Qc .i64 (Int.add x30 x21)) fun x31=>
Zi v7.1 fun x32=>
fB (eqI x31 (Int.ofNat x32)) fun b33=>
br b33 (
j4 (v28,(AV.int .i64 x31),()) d8 h29) (
r10 (v7.1,v28,(AV.int .i64 x31),()) d8 h29))) (
Qr (gam J [(52,c52)]) d8 h16 fun h34=>
asI .i64 v7.2.2.1 fun x35=>
k v7.2.1 x35 x24 h34)) (
j4 (v7.2.1,v7.2.2.1,()) d8 h9)) (a0,AV.nils,(AV.int .i64 (Int.ofNat 0)),()) [] h
def s33:AV→H→(AV→Int→Int→H→Prop)→Prop:=Qet J0 g52
def w33 (c:AV→H→(AV→Int→Int→H→Prop)→Prop):Fun:=fun xs h k=>arg xs fun a0 xs=>QV xs <| c a0 h fun r0 r1 r2 h=>k (.tuple [r0,(.int .i64 r1),(.int .i64 r2)]) h
theorem Qes (J:Qg) (c52:Fun) (a0:AV) (h:H) (k:AV→H→Prop):Zk ty (gam J [(52,c52)]) Tryd.f33 [a0] h k=Qet J c52 a0 h (fun r0 r1 r2 h=>k (.tuple [r0,(.int .i64 r1),(.int .i64 r2)]) h):=by kernel_rfl
def g33:Fun:=w33 s33
theorem g33_ok:Qp Tryd.prog 33 g33:=(Qz QF QG (Qu (J:=J0) (Qb g52_ok (Qn Qo))) Tryd.func33 (fun args w=>by simp)).imp fun xs h k e0=>by
  obtain ⟨a0,xs0,rfl,e1⟩:=Qf e0
  obtain ⟨rfl,e2⟩:=Qj e1
  exact (Qes J0 g52 a0 h k).mpr e2
def N5 (J:Qg) (a0:AV) (h:H) (k:Bool→H→Prop):Prop :=
Go.Am.asAgg a0 fun l3=>
Qw (.cells false 47 l3) h fun n1 h2=>
ldS (AV.ptr n1 0) h2 fun s4=>
fB (Bool.not (Str.beq s4 (⟨0,0⟩:Str))) fun b5=>
J.jn (fun v6 h7=>
J.jn (fun v9 h10=>
J.jn (fun v13 h14=>
J.jn (fun v17 h18=>
QY (AV.bool b5) v17 (AV.bool false) fun b22=>
J.jn (fun v23 h24=>
J.jn (fun v26 h27=>
J.jn (fun v30 h31=>
J.jn (fun v34 h35=>
QY (AV.bool b22) v34 (AV.bool false) fun b39=>
J.jn (fun v40 h41=>
J.jn (fun v43 h44=>
J.jn (fun v47 h48=>
J.jn (fun v52 h53=>
J.jn (fun v55 h56=>
J.jn (fun v58 h59=>
J.jn (fun v62 h63=>
J.jn (fun v67 h68=>
QY (AV.bool b39) v67 (AV.bool false) fun b71=>
k b71 h68) fun j69=>
br b39 (
QY v52 (AV.bool true) v62 fun b70=>
j69 (AV.bool b70) h63) (
j69 Qa h63)) fun j64=>
ZW v52 (fun b72=>
br b72 (
j64 Qa h59) (
asS v58 fun s65=>
fB (Str.beq s65 (⟨0,0⟩:Str)) fun b66=>
j64 (AV.bool b66) h59)) (
j64 Qa h59)) fun j60=>
ZW v52 (fun b73=>
br b73 (
j60 Qa h56) (
ldS v55 h56 fun s61=>
j60 (AV.str s61) h56)) (
j60 Qa h56)) fun j57=>
ZW v52 (fun b74=>
br b74 (
j57 Qa h53) (
j57 (AV.ptr n1 1) h53)) (
j57 Qa h53)) fun j54=>
br b39 (
j54 v47 h48) (
j54 Qa h48)) fun j49=>
br b39 (
asB v43 fun b50=>
fB (Bool.not b50) fun b51=>
j49 (AV.bool b51) h44) (
j49 Qa h44)) fun j45=>
br b39 (
ldB v40 h41 fun b46=>
j45 (AV.bool b46) h41) (
j45 Qa h41)) fun j42=>
br b39 (
j42 (AV.ptr n1 2) h35) (
j42 Qa h35)) fun j36=>
br b22 (
asI .i64 v30 fun x37=>
fB (Bool.not (ltI (Int.ofNat 4096) x37)) fun b38=>
j36 (AV.bool b38) h31) (
j36 Qa h31)) fun j32=>
br b22 (
asS v26 fun s33=>
j32 (AV.int .i64 (Int.ofNat s33.len)) h27) (
j32 Qa h27)) fun j28=>
br b22 (
ldS v23 h24 fun s29=>
j28 (AV.str s29) h24) (
j28 Qa h24)) fun j25=>
br b22 (
j25 (AV.ptr n1 1) h18) (
j25 Qa h18)) fun j19=>
br b5 (
asI .i64 v13 fun x20=>
fB (Bool.not (ltI (Int.ofNat 512) x20)) fun b21=>
j19 (AV.bool b21) h14) (
j19 Qa h14)) fun j15=>
br b5 (
asS v9 fun s16=>
j15 (AV.int .i64 (Int.ofNat s16.len)) h10) (
j15 Qa h10)) fun j11=>
br b5 (
ldS v6 h7 fun s12=>
j11 (AV.str s12) h7) (
j11 Qa h7)) fun j8=>
br b5 (
j8 (AV.ptr n1 0) h2) (
j8 Qa h2)
def s38:AV→H→(Bool→H→Prop)→Prop:=N5 J0
def w38 (c:AV→H→(Bool→H→Prop)→Prop):Fun:=fun xs h k=>arg xs fun a0 xs=>QV xs <| c a0 h fun r0 h=>k (.bool r0) h
theorem s38_eq (J:Qg) (a0:AV) (h:H) (k:AV→H→Prop):Zk ty (gam J []) Tryd.f38 [a0] h k=N5 J  a0 h (fun r0 h=>k (.bool r0) h):=by kernel_rfl
def g38:Fun:=w38 s38
theorem g38_ok:Qp Tryd.prog 38 g38:=(Qz QF QG (Qu (J:=J0) (Qn Qo)) Tryd.func38 (fun args w=>by simp)).imp fun xs h k e0=>by
  obtain ⟨a0,xs0,rfl,e1⟩:=Qf e0
  obtain ⟨rfl,e2⟩:=Qj e1
  exact (s38_eq J0  a0 h k).mpr e2
def Qam (J:Qg) (c38:AV→H→(Bool→H→Prop)→Prop) (a0:AV) (h:H) (k:Int→H→Prop):Prop :=
Zi a0 fun x1=>
fB (eqI (Int.ofNat x1) (Int.ofNat 0)) fun b2=>
br b2 (
k (Int.ofNat 2) h) (
Zi a0 fun x3=>
fB (ltI (Int.ofNat 64) (Int.ofNat x3)) fun b4=>
br b4 (
k (Int.ofNat 3) h) (
Zi a0 fun x5=>
J.lp (α:=AV × AV × AV × AV × Unit) (fun r9 v6 d7 h8=>
asI .i64 v6.2.2.2.1 fun x10=>
asI .i64 v6.2.2.1 fun x11=>
fB (ltI x10 x11) fun b12=>
br b12 (
ixK 3 v6.2.1 v6.2.2.2.1 fun p13=>
ldN 3 p13 h8 fun l14=>
Qw (.cells false 47 [(.str ⟨0,0⟩),(.str ⟨0,0⟩),(.bool false)]) h8 fun n15 h16=>
stN 3 (AV.ptr n15 0) l14 h16 fun h17=>
ldN 3 (AV.ptr n15 0) h17 fun l18=>
c38 (AV.agg l18) h17 fun b20 h19=>
fB (Bool.not b20) fun b21=>
br b21 (
Qr (gam J [(38,w38 c38)]) d7 h19 fun h22=>
k (Int.ofNat 2) h22) (
asI .i64 v6.2.2.2.1 fun x23=>
fI (Qc .i64 (Int.add x23 (Int.ofNat 1))) fun x24=>
r9 (v6.1,v6.2.1,v6.2.2.1,(AV.int .i64 x24),()) d7 h19)) (
Qw (.smap []) h8 fun n25 h26=>
Zi v6.1 fun x27=>
J.lp (α:=AV × AV × AV × AV × Unit) (fun r31 v28 d29 h30=>
asI .i64 v28.2.2.2.1 fun x32=>
asI .i64 v28.2.2.1 fun x33=>
fB (ltI x32 x33) fun b34=>
br b34 (
ixK 3 v28.2.1 v28.2.2.2.1 fun p35=>
ldN 3 p35 h30 fun l36=>
Qw (.cells false 47 [(.str ⟨0,0⟩),(.str ⟨0,0⟩),(.bool false)]) h30 fun n37 h38=>
stN 3 (AV.ptr n37 0) l36 h38 fun h39=>
ldS (AV.ptr n37 0) h39 fun s40=>
op' (QW ty 9 88 true v28.1 (AV.str s40) h39) fun v41=>
asTup v41 fun l42=>
op' (Q3 l42 0) fun v43=>
asTup v41 fun l44=>
op' (Q3 l44 1) fun v45=>
asB v45 fun b46=>
Qw (.cells false 88 []) h39 fun n47 h48=>
Go.Am.asAgg v43 fun l50=>
stN 0 (AV.ptr n47 0) l50 h48 fun h49=>
br b46 (
Qr (gam J [(38,w38 c38)]) d29 h49 fun h51=>
k (Int.ofNat 9) h51) (
ldS (AV.ptr n37 0) h49 fun s52=>
op' (Yi ty 9 v28.1 (AV.str s52) (AV.agg []) h49) fun k53=>
Z9 k53.1 k53.2 h49 fun h54=>
asI .i64 v28.2.2.2.1 fun x55=>
fI (Qc .i64 (Int.add x55 (Int.ofNat 1))) fun x56=>
r31 (v28.1,v28.2.1,v28.2.2.1,(AV.int .i64 x56),()) d29 h54)) (
Qr (gam J [(38,w38 c38)]) d29 h30 fun h57=>
k (Int.ofNat 0) h57)) ((AV.map n25),v6.1,(AV.int .i64 (Int.ofNat x27)),(AV.int .i64 (Int.ofNat 0)),()) d7 h26)) (a0,a0,(AV.int .i64 (Int.ofNat x5)),(AV.int .i64 (Int.ofNat 0)),()) [] h))
def s23:AV→H→(Int→H→Prop)→Prop:=Qam J0 s38
def w23 (c:AV→H→(Int→H→Prop)→Prop):Fun:=fun xs h k=>arg xs fun a0 xs=>QV xs <| c a0 h fun r0 h=>k (.int .i64 r0) h
theorem s23_eq (J:Qg) (c38:AV→H→(Bool→H→Prop)→Prop) (a0:AV) (h:H) (k:AV→H→Prop):Zk ty (gam J [(38,w38 c38)]) Tryd.f23 [a0] h k=Qam J c38 a0 h (fun r0 h=>k (.int .i64 r0) h):=by kernel_rfl
def g23:Fun:=w23 s23
theorem QaH:Qp Tryd.prog 23 g23:=(Qz QF QG (Qu (J:=J0) (Qb g38_ok (Qn Qo))) Tryd.func23 (fun args w=>by simp)).imp fun xs h k e0=>by
  obtain ⟨a0,xs0,rfl,e1⟩:=Qf e0
  obtain ⟨rfl,e2⟩:=Qj e1
  exact (s23_eq J0 s38 a0 h k).mpr e2
def Gw (J:Qg) (a0:AV) (h:H) (k:Int→Int→Int→H→Prop):Prop :=
J.jd (α:=Unit) (fun v1 d2 h3=>
Qr (gam J []) d2 h3 fun h5=>
k (Int.ofNat 0) (Int.ofNat 0) (Int.ofNat 5) h5) fun j4=>
J.lp (α:=AV × AV × AV × Unit) (fun r9 v6 d7 h8=>
Zi v6.1 fun x10=>
asI .i64 v6.2.2.1 fun x11=>
fB (ltI x11 (Int.ofNat x10)) fun b12=>
J.jn (fun v13 h14=>
J.jn (fun v16 h17=>
QY (AV.bool b12) v16 (AV.bool false) fun b21=>
br b21 (
ixK 1 v6.1 v6.2.2.1 fun p22=>
ldI .u8 p22 h17 fun x23=>
asI .i64 v6.2.2.1 fun x24=>
fB (eqI x24 (Int.ofNat 9)) fun b25=>
J.jn (fun v26 h27=>
J.jn (fun v29 h30=>
QY (AV.bool b25) v29 (AV.bool false) fun b34=>
J.jn (fun v35 h36=>
J.jn (fun v38 h39=>
J.jn (fun v43 h44=>
J.jn (fun v46 h47=>
J.jn (fun v49 h50=>
J.jn (fun v54 h55=>
QY (AV.bool b34) (AV.bool true) v54 fun b58=>
br b58 (
j4 (()) d7 h55) (
fI (NA .u8 x23 (Int.ofNat 128)) fun x59=>
fI (Qc .u64 x59) fun x60=>
asI .i64 v6.2.2.1 fun x61=>
fI (Qc .i64 (Int.mul (Int.ofNat 7) x61)) fun x62=>
Wo (AV.int .i64 x62) fun n63=>
fI (Up .u64 x60 n63) fun x64=>
asI .u64 v6.2.1 fun x65=>
fI (Uv .u64 x65 x64) fun x66=>
asI .i64 v6.2.2.1 fun x67=>
fI (Qc .i64 (Int.add x67 (Int.ofNat 1))) fun x68=>
fB (ltI x23 (Int.ofNat 128)) fun b69=>
br b69 (
Qr (gam J []) d7 h55 fun h70=>
k x66 x68 (Int.ofNat 0) h70) (
r9 (v6.1,(AV.int .u64 x66),(AV.int .i64 x68),()) d7 h55))) fun j56=>
br b34 (
j56 Qa h50) (
QY v43 v49 (AV.bool false) fun b57=>
j56 (AV.bool b57) h50)) fun j51=>
ZW v43 (fun b71=>
br b71 (
asI .u8 v46 fun x52=>
fB (eqI x52 (Int.ofNat 0)) fun b53=>
j51 (AV.bool b53) h47) (
j51 Qa h47)) (
j51 Qa h47)) fun j48=>
ZW v43 (fun b72=>
br b72 (
j48 (AV.int .u8 x23) h44) (
j48 Qa h44)) (
j48 Qa h44)) fun j45=>
br b34 (
j45 Qa h39) (
j45 v38 h39)) fun j40=>
br b34 (
j40 Qa h36) (
asI .i64 v35 fun x41=>
fB (ltI (Int.ofNat 0) x41) fun b42=>
j40 (AV.bool b42) h36)) fun j37=>
br b34 (
j37 Qa h30) (
j37 v6.2.2.1 h30)) fun j31=>
br b25 (
asI .u8 v26 fun x32=>
fB (ltI (Int.ofNat 1) x32) fun b33=>
j31 (AV.bool b33) h27) (
j31 Qa h27)) fun j28=>
br b25 (
j28 (AV.int .u8 x23) h17) (
j28 Qa h17)) (
j4 (()) d7 h17)) fun j18=>
br b12 (
asI .i64 v13 fun x19=>
fB (ltI x19 (Int.ofNat 10)) fun b20=>
j18 (AV.bool b20) h14) (
j18 Qa h14)) fun j15=>
br b12 (
j15 v6.2.2.1 h8) (
j15 Qa h8)) (a0,(AV.int .u64 (Int.ofNat 0)),(AV.int .i64 (Int.ofNat 0)),()) [] h
def s78:AV→H→(Int→Int→Int→H→Prop)→Prop:=Gw J0
def w78 (c:AV→H→(Int→Int→Int→H→Prop)→Prop):Fun:=fun xs h k=>arg xs fun a0 xs=>QV xs <| c a0 h fun r0 r1 r2 h=>k (.tuple [(.int .u64 r0),(.int .i64 r1),(.int .i64 r2)]) h
theorem s78_eq (J:Qg) (a0:AV) (h:H) (k:AV→H→Prop):Zk ty (gam J []) Tryd.f78 [a0] h k=Gw J  a0 h (fun r0 r1 r2 h=>k (.tuple [(.int .u64 r0),(.int .i64 r1),(.int .i64 r2)]) h):=by kernel_rfl
def g78:Fun:=w78 s78
theorem g78_ok:Qp Tryd.prog 78 g78:=(Qz QF QG (Qu (J:=J0) (Qn Qo)) Tryd.func78 (fun args w=>by simp)).imp fun xs h k e0=>by
  obtain ⟨a0,xs0,rfl,e1⟩:=Qf e0
  obtain ⟨rfl,e2⟩:=Qj e1
  exact (s78_eq J0  a0 h k).mpr e2
def G6 (J:Qg) (c78:AV→H→(Int→Int→Int→H→Prop)→Prop) (a0:AV) (a1:Int) (h:H) (k:Int→Int→Int→H→Prop):Prop :=
c78 a0 h fun x2 x3 x4 h1=>
fB (Bool.not (eqI x4 (Int.ofNat 0))) fun b5=>
J.jn (fun v6 h7=>
J.jn (fun v9 h10=>
QY (AV.bool b5) (AV.bool true) v9 fun b14=>
J.jn (fun v15 h16=>
J.jn (fun v18 h19=>
J.jn (fun v21 h22=>
J.jn (fun v26 h27=>
QY (AV.bool b14) (AV.bool true) v26 fun b32=>
br b32 (
k (Int.ofNat 0) (Int.ofNat 0) (Int.ofNat 5) h27) (
fI (Qc .i64 x2) fun x33=>
k x33 x3 (Int.ofNat 0) h27)) fun j28=>
br b14 (
j28 Qa h22) (
asI .u64 v15 fun x29=>
asI .u64 v21 fun x30=>
fB (ltI x30 x29) fun b31=>
j28 (AV.bool b31) h22)) fun j23=>
br b14 (
j23 Qa h19) (
asI .i64 v18 fun x24=>
fI (Qc .u64 x24) fun x25=>
j23 (AV.int .u64 x25) h19)) fun j20=>
br b14 (
j20 Qa h16) (
j20 (AV.int .i64 a1) h16)) fun j17=>
br b14 (
j17 Qa h10) (
j17 (AV.int .u64 x2) h10)) fun j11=>
br b5 (
j11 Qa h7) (
asI .i64 v6 fun x12=>
fB (ltI x12 (Int.ofNat 0)) fun b13=>
j11 (AV.bool b13) h7)) fun j8=>
br b5 (
j8 Qa h1) (
j8 (AV.int .i64 a1) h1)
def s69:AV→Int→H→(Int→Int→Int→H→Prop)→Prop:=G6 J0 s78
def w69 (c:AV→Int→H→(Int→Int→Int→H→Prop)→Prop):Fun:=fun xs h k=>arg xs fun a0 xs=>arg xs fun a1 xs=>QV xs <| asI .i64 a1 fun a1=>c a0 a1 h fun r0 r1 r2 h=>k (.tuple [(.int .i64 r0),(.int .i64 r1),(.int .i64 r2)]) h
theorem s69_eq (J:Qg) (c78:AV→H→(Int→Int→Int→H→Prop)→Prop) (a0:AV) (a1:Int) (h:H) (k:AV→H→Prop):Zk ty (gam J [(78,w78 c78)]) Tryd.f69 [a0,(.int .i64 a1)] h k=G6 J c78 a0 a1 h (fun r0 r1 r2 h=>k (.tuple [(.int .i64 r0),(.int .i64 r1),(.int .i64 r2)]) h):=by kernel_rfl
def g69:Fun:=w69 s69
theorem g69_ok:Qp Tryd.prog 69 g69:=(Qz QF QG (Qu (J:=J0) (Qb g78_ok (Qn Qo))) Tryd.func69 (fun args w=>by simp)).imp fun xs h k e0=>by
  obtain ⟨a0,xs0,rfl,e1⟩:=Qf e0
  obtain ⟨a1,xs1,rfl,e2⟩:=Qf e1
  obtain ⟨rfl,e3⟩:=Qj e2
  obtain ⟨a1,rfl,e4⟩:=QI.1 e3
  exact (s69_eq J0 s78 a0 a1 h k).mpr e4
def N3 (J:Qg) (c69:AV→Int→H→(Int→Int→Int→H→Prop)→Prop) (a0:AV) (a1:Int) (h:H) (k:Int→H→Prop):Prop :=
Qv a0 (
faK 1 a0 fun p1=>
ldI .i64 p1 h fun x2=>
fB (Bool.not (eqI x2 (Int.ofNat 0))) fun b3=>
br b3 (
k (Int.ofNat 0) h) (
Qv a0 (
faK 0 a0 fun p4=>
ldV p4 h fun v5=>
c69 v5 a1 h fun x7 x8 x9 h6=>
Qv a0 (
faK 0 a0 fun p10=>
ldV p10 h6 fun v11=>
slK 1 v11 (some (AV.int .i64 x8)) none fun v12=>
Qv a0 (
faK 0 a0 fun p13=>
stV p13 v12 h6 fun h14=>
Qv a0 (
faK 1 a0 fun p15=>
stV p15 (AV.int .i64 x9) h14 fun h16=>
k x7 h16))))))
def s53:AV→Int→H→(Int→H→Prop)→Prop:=N3 J0 s69
def w53 (c:AV→Int→H→(Int→H→Prop)→Prop):Fun:=fun xs h k=>arg xs fun a0 xs=>arg xs fun a1 xs=>QV xs <| asI .i64 a1 fun a1=>c a0 a1 h fun r0 h=>k (.int .i64 r0) h
theorem s53_eq (J:Qg) (c69:AV→Int→H→(Int→Int→Int→H→Prop)→Prop) (a0:AV) (a1:Int) (h:H) (k:AV→H→Prop):Zk ty (gam J [(69,w69 c69)]) Tryd.f53 [a0,(.int .i64 a1)] h k=N3 J c69 a0 a1 h (fun r0 h=>k (.int .i64 r0) h):=by kernel_rfl
def g53:Fun:=w53 s53
theorem Qe7:Qp Tryd.prog 53 g53:=(Qz QF QG (Qu (J:=J0) (Qb g69_ok (Qn Qo))) Tryd.func53 (fun args w=>by simp)).imp fun xs h k e0=>by
  obtain ⟨a0,xs0,rfl,e1⟩:=Qf e0
  obtain ⟨a1,xs1,rfl,e2⟩:=Qf e1
  obtain ⟨rfl,e3⟩:=Qj e2
  obtain ⟨a1,rfl,e4⟩:=QI.1 e3
  exact (s53_eq J0 s69 a0 a1 h k).mpr e4
def Qck (J:Qg) (c53:AV→Int→H→(Int→H→Prop)→Prop) (a0:AV) (a1:Int) (h:H) (k:Str→H→Prop):Prop :=
c53 a0 a1 h fun x2 h1=>
Qv a0 (
faK 1 a0 fun p3=>
ldI .i64 p3 h1 fun x4=>
fB (Bool.not (eqI x4 (Int.ofNat 0))) fun b5=>
J.jn (fun v6 h7=>
J.jn (fun v9 h10=>
J.jn (fun v12 h13=>
J.jn (fun v15 h16=>
J.jn (fun v19 h20=>
J.jn (fun v23 h24=>
J.jn (fun v27 h28=>
QY (AV.bool b5) (AV.bool true) v27 fun b33=>
br b33 (
Qv a0 (
faK 1 a0 fun p34=>
stV p34 (AV.int .i64 (Int.ofNat 5)) h28 fun h35=>
k ⟨0,0⟩ h35)) (
Qv a0 (
faK 0 a0 fun p36=>
ldV p36 h28 fun v37=>
slK 1 v37 none (some (AV.int .i64 x2)) fun v38=>
Y0 v38 h28 fun s39=>
Qv a0 (
faK 0 a0 fun p40=>
ldV p40 h28 fun v41=>
slK 1 v41 (some (AV.int .i64 x2)) none fun v42=>
Qv a0 (
faK 0 a0 fun p43=>
stV p43 v42 h28 fun h44=>
k s39 h44))))) fun j29=>
br b5 (
j29 Qa h24) (
asI .i64 v6 fun x30=>
asI .i64 v23 fun x31=>
fB (ltI x31 x30) fun b32=>
j29 (AV.bool b32) h24)) fun j25=>
br b5 (
j25 Qa h20) (
Zi v19 fun x26=>
j25 (AV.int .i64 (Int.ofNat x26)) h20)) fun j21=>
br b5 (
j21 Qa h16) (
ldV v15 h16 fun v22=>
j21 v22 h16)) fun j17=>
br b5 (
j17 Qa h13) (
faK 0 v12 fun p18=>
j17 p18 h13)) fun j14=>
br b5 (
j14 Qa h10) (
Qv v9 (
j14 v9 h10))) fun j11=>
br b5 (
j11 Qa h7) (
j11 a0 h7)) fun j8=>
br b5 (
j8 Qa h1) (
j8 (AV.int .i64 x2) h1))
def s54:AV→Int→H→(Str→H→Prop)→Prop:=Qck J0 s53
def w54 (c:AV→Int→H→(Str→H→Prop)→Prop):Fun:=fun xs h k=>arg xs fun a0 xs=>arg xs fun a1 xs=>QV xs <| asI .i64 a1 fun a1=>c a0 a1 h fun r0 h=>k (.str r0) h
theorem s54_eq (J:Qg) (c53:AV→Int→H→(Int→H→Prop)→Prop) (a0:AV) (a1:Int) (h:H) (k:AV→H→Prop):Zk ty (gam J [(53,w53 c53)]) Tryd.f54 [a0,(.int .i64 a1)] h k=Qck J c53 a0 a1 h (fun r0 h=>k (.str r0) h):=by kernel_rfl
def g54:Fun:=w54 s54
theorem g54_ok:Qp Tryd.prog 54 g54:=(Qz QF QG (Qu (J:=J0) (Qb Qe7 (Qn Qo))) Tryd.func54 (fun args w=>by simp)).imp fun xs h k e0=>by
  obtain ⟨a0,xs0,rfl,e1⟩:=Qf e0
  obtain ⟨a1,xs1,rfl,e2⟩:=Qf e1
  obtain ⟨rfl,e3⟩:=Qj e2
  obtain ⟨a1,rfl,e4⟩:=QI.1 e3
  exact (s54_eq J0 s53 a0 a1 h k).mpr e4
def Qer (J:Qg) (c23:AV→H→(Int→H→Prop)→Prop) (c53:AV→Int→H→(Int→H→Prop)→Prop) (c54:AV→Int→H→(Str→H→Prop)→Prop) (a0:AV) (h:H) (k:AV→Int→H→Prop):Prop :=
Qw (.cells false 40 [(.int .i64 0),(.nils)]) h fun n1 h2=>
ck (Zv a0) (Qw (.cells false 109 [a0,(.int .i64 0)]) h2 fun n3 h4=>
c53 (AV.ptr n3 0) (Int.ofNat 1073741824) h4 fun x6 h5=>
Qw (.cells false 40 [(.int .i64 0),(.nils)]) h5 fun n7 h8=>
stN 2 (AV.ptr n7 0) [(AV.int .i64 x6),(.nils)] h8 fun h9=>
c53 (AV.ptr n3 0) (Int.ofNat 64) h9 fun x11 h10=>
J.lp (α:=AV × AV × AV × AV × Unit) (fun r15 v12 d13 h14=>
asI .i64 v12.2.2.2.1 fun x16=>
fB (ltI (Int.ofNat 0) x16) fun b17=>
J.jn (fun v18 h19=>
J.jn (fun v21 h22=>
J.jn (fun v24 h25=>
J.jn (fun v28 h29=>
J.jn (fun v32 h33=>
QY (AV.bool b17) v32 (AV.bool false) fun b37=>
br b37 (
c53 v12.2.1 (Int.ofNat 1) h33 fun x39 h38=>
fB (eqI x39 (Int.ofNat 1)) fun b40=>
c54 v12.2.1 (Int.ofNat 512) h38 fun s42 h41=>
Qw (.cells false 47 [(.str ⟨0,0⟩),(.str ⟨0,0⟩),(.bool false)]) h41 fun n43 h44=>
stN 3 (AV.ptr n43 0) [(AV.str s42),(.str ⟨0,0⟩),(AV.bool b40)] h44 fun h45=>
J.jd (α:=AV × AV × AV × AV × AV × Unit) (fun v46 d47 h48=>
faK 1 v46.2.2.1 fun p50=>
ldV p50 h48 fun v51=>
ldN 3 v46.2.2.2.2.1 h48 fun l52=>
ck (Nat.beq (List.length l52) 3) (op' (Q7 0 l52 [(.str ⟨0,0⟩),(.str ⟨0,0⟩),(.bool false)]) fun l55=>
Qw (.cells false 47 l55) h48 fun n53 h54=>
apC 47 3 40 v51 (AV.slice n53 0 1 1 3 true) h54 fun v56 h57=>
faK 1 v46.2.2.1 fun p58=>
stV p58 v56 h57 fun h59=>
asI .i64 v46.2.2.2.1 fun x60=>
fI (Qc .i64 (Int.sub x60 (Int.ofNat 1))) fun x61=>
r15 (v46.1,v46.2.1,v46.2.2.1,(AV.int .i64 x61),()) d47 h59)) fun j49=>
ldB (AV.ptr n43 2) h45 fun b62=>
fB (Bool.not b62) fun b63=>
br b63 (
c54 v12.2.1 (Int.ofNat 4096) h45 fun s65 h64=>
stV (AV.ptr n43 1) (AV.str s65) h64 fun h66=>
j49 (v12.1,v12.2.1,v12.2.2.1,v12.2.2.2.1,(AV.ptr n43 0),()) d13 h66) (
j49 (v12.1,v12.2.1,v12.2.2.1,v12.2.2.2.1,(AV.ptr n43 0),()) d13 h45)) (
Qv v12.2.1 (
faK 1 v12.2.1 fun p67=>
ldI .i64 p67 h33 fun x68=>
fB (Bool.not (eqI x68 (Int.ofNat 0))) fun b69=>
J.jn (fun v70 h71=>
J.jn (fun v73 h74=>
J.jn (fun v76 h77=>
J.jn (fun v80 h81=>
J.jn (fun v84 h85=>
J.jn (fun v88 h89=>
QY (AV.bool b69) (AV.bool true) v88 fun b93=>
J.jn (fun v94 h95=>
J.jn (fun v98 h99=>
J.jn (fun v102 h103=>
QY (AV.bool b93) (AV.bool true) v102 fun b107=>
J.jn (fun v108 h109=>
J.jn (fun v112 h113=>
J.jn (fun v116 h117=>
J.jn (fun v121 h122=>
QY (AV.bool b107) (AV.bool true) v121 fun b126=>
br b126 (
stN 2 v12.1 [(.int .i64 0),(.nils)] h122 fun h127=>
Qr (gam J [(23,w23 c23),(53,w53 c53),(54,w54 c54)]) d13 h127 fun h128=>
ldN 2 v12.1 h128 fun l129=>
k (AV.agg l129) (Int.ofNat 5) h128) (
ldN 2 v12.2.2.1 h122 fun l130=>
stN 2 v12.1 l130 h122 fun h131=>
Qr (gam J [(23,w23 c23),(53,w53 c53),(54,w54 c54)]) d13 h131 fun h132=>
ldN 2 v12.1 h132 fun l133=>
k (AV.agg l133) (Int.ofNat 0) h132)) fun j123=>
br b107 (
j123 Qa h117) (
asI .i64 v116 fun x124=>
fB (Bool.not (eqI x124 (Int.ofNat 0))) fun b125=>
j123 (AV.bool b125) h117)) fun j118=>
br b107 (
j118 Qa h113) (
c23 v112 h113 fun x120 h119=>
j118 (AV.int .i64 x120) h119)) fun j114=>
br b107 (
j114 Qa h109) (
ldV v108 h109 fun v115=>
j114 v115 h109)) fun j110=>
br b107 (
j110 Qa h103) (
faK 1 v12.2.2.1 fun p111=>
j110 p111 h103)) fun j104=>
br b93 (
j104 Qa h99) (
asI .i64 v98 fun x105=>
fB (ltI x105 (Int.ofNat 1)) fun b106=>
j104 (AV.bool b106) h99)) fun j100=>
br b93 (
j100 Qa h95) (
ldI .i64 v94 h95 fun x101=>
j100 (AV.int .i64 x101) h95)) fun j96=>
br b93 (
j96 Qa h89) (
faK 0 v12.2.2.1 fun p97=>
j96 p97 h89)) fun j90=>
br b69 (
j90 Qa h85) (
asI .i64 v84 fun x91=>
fB (ltI (Int.ofNat 0) x91) fun b92=>
j90 (AV.bool b92) h85)) fun j86=>
br b69 (
j86 Qa h81) (
Zi v80 fun x87=>
j86 (AV.int .i64 (Int.ofNat x87)) h81)) fun j82=>
br b69 (
j82 Qa h77) (
ldV v76 h77 fun v83=>
j82 v83 h77)) fun j78=>
br b69 (
j78 Qa h74) (
faK 0 v73 fun p79=>
j78 p79 h74)) fun j75=>
br b69 (
j75 Qa h71) (
Qv v70 (
j75 v70 h71))) fun j72=>
br b69 (
j72 Qa h33) (
j72 v12.2.1 h33)))) fun j34=>
br b17 (
asI .i64 v28 fun x35=>
fB (eqI x35 (Int.ofNat 0)) fun b36=>
j34 (AV.bool b36) h29) (
j34 Qa h29)) fun j30=>
br b17 (
ldI .i64 v24 h25 fun x31=>
j30 (AV.int .i64 x31) h25) (
j30 Qa h25)) fun j26=>
br b17 (
faK 1 v21 fun p27=>
j26 p27 h22) (
j26 Qa h22)) fun j23=>
br b17 (
Qv v18 (
j23 v18 h19)) (
j23 Qa h19)) fun j20=>
br b17 (
j20 v12.2.1 h14) (
j20 Qa h14)) ((AV.ptr n1 0),(AV.ptr n3 0),(AV.ptr n7 0),(AV.int .i64 x11),()) [] h10)
def s34:AV→H→(AV→Int→H→Prop)→Prop:=Qer J0 s23 s53 s54
def w34 (c:AV→H→(AV→Int→H→Prop)→Prop):Fun:=fun xs h k=>arg xs fun a0 xs=>QV xs <| c a0 h fun r0 r1 h=>k (.tuple [r0,(.int .i64 r1)]) h
theorem s34_eq (J:Qg) (c23:AV→H→(Int→H→Prop)→Prop) (c53:AV→Int→H→(Int→H→Prop)→Prop) (c54:AV→Int→H→(Str→H→Prop)→Prop) (a0:AV) (h:H) (k:AV→H→Prop):Zk ty (gam J [(23,w23 c23),(53,w53 c53),(54,w54 c54)]) Tryd.f34 [a0] h k=Qer J c23 c53 c54 a0 h (fun r0 r1 h=>k (.tuple [r0,(.int .i64 r1)]) h):=by kernel_rfl
def g34:Fun:=w34 s34
theorem Qfi:Qp Tryd.prog 34 g34:=(Qz QF QG (Qu (J:=J0) (Qb QaH (Qb Qe7 (Qb g54_ok (Qn Qo))))) Tryd.func34 (fun args w=>by simp)).imp fun xs h k e0=>by
  obtain ⟨a0,xs0,rfl,e1⟩:=Qf e0
  obtain ⟨rfl,e2⟩:=Qj e1
  exact (s34_eq J0 s23 s53 s54 a0 h k).mpr e2
def Qbm (J:Qg) (c26:Int→H→(Str→Int→H→Prop)→Prop) (c32:AV→Str→H→(AV→Int→H→Prop)→Prop) (c33:AV→H→(AV→Int→Int→H→Prop)→Prop) (c34:AV→H→(AV→Int→H→Prop)→Prop) (a0:AV) (a1:Int) (a2:AV) (h:H) (k:AV→Int→H→Prop):Prop :=
c26 a1 h fun s2 x3 h1=>
c32 a0 s2 h1 fun v5 x6 h4=>
fB (Bool.not (eqI x6 (Int.ofNat 0))) fun b7=>
br b7 (
k AV.nils x6 h4) (
c33 v5 h4 fun v9 x10 x11 h8=>
fB (eqI x11 (Int.ofNat 6)) fun b12=>
br b12 (
k AV.nils x11 h8) (
Zi v9 fun x13=>
J.lp (α:=AV × AV × AV × AV × Unit) (fun r17 v14 d15 h16=>
asI .i64 v14.2.2.2.1 fun x18=>
asI .i64 v14.2.2.1 fun x19=>
fB (ltI x18 x19) fun b20=>
br b20 (
ixK 1 v14.2.1 v14.2.2.2.1 fun p21=>
ldV p21 h16 fun v22=>
c34 v22 h16 fun v24 x25 h23=>
Qw (.cells false 40 [(.int .i64 0),(.nils)]) h23 fun n26 h27=>
Go.Am.asAgg v24 fun l29=>
stN 2 (AV.ptr n26 0) l29 h27 fun h28=>
fB (Bool.not (eqI x25 (Int.ofNat 0))) fun b30=>
J.jn (fun v31 h32=>
J.jn (fun v34 h35=>
J.jn (fun v38 h39=>
J.jn (fun v43 h44=>
J.jn (fun v46 h47=>
J.jb (fun b49 v50=>
J.jn (fun v53 h54=>
J.jn (fun v56 h57=>
J.jn (fun v59 h60=>
J.jn (fun v63 h64=>
J.jn (fun v68 h69=>
J.jn (fun v72 h73=>
J.jb (fun b76 v77=>
J.jn (fun v80 h81=>
J.jn (fun v85 h86=>
J.jn (fun v91 h92=>
QY (AV.bool b30) (AV.bool true) v91 fun b95=>
br b95 (
Qr (gam J [(26,w26 c26),(32,w32 c32),(33,w33 c33),(34,w34 c34)]) d15 h92 fun h96=>
k AV.nils (Int.ofNat 6) h96) (
ldN 2 (AV.ptr n26 0) h92 fun l97=>
ck (Nat.beq (List.length l97) 2) (op' (Q7 0 l97 [(.int .i64 0),(.nils)]) fun l100=>
Qw (.cells false 40 l100) h92 fun n98 h99=>
apC 40 2 32 v14.1 (AV.slice n98 0 1 1 2 true) h99 fun v101 h102=>
asI .i64 v14.2.2.2.1 fun x103=>
fI (Qc .i64 (Int.add x103 (Int.ofNat 1))) fun x104=>
r17 (v101,v14.2.1,v14.2.2.1,(AV.int .i64 x104),()) d15 h102))) fun j93=>
br b30 (
j93 Qa h86) (
QY v43 v85 (AV.bool false) fun b94=>
j93 (AV.bool b94) h86)) fun j87=>
ZW v43 (fun b105=>
br b105 (
asI .i64 v50 fun x88=>
asI .i64 v80 fun x89=>
fB (Bool.not (eqI x88 x89)) fun b90=>
j87 (AV.bool b90) h81) (
j87 Qa h81)) (
j87 Qa h81)) fun j82=>
ZW v43 (fun b106=>
br b106 (
asI .i64 v77 fun x83=>
fI (Qc .i64 (Int.add x83 (Int.ofNat 1))) fun x84=>
j82 (AV.int .i64 x84) h73) (
j82 Qa h73)) (
j82 Qa h73)) fun j78=>
ZW v43 (fun b107=>
br b107 (
ldI .i64 v72 h73 fun x79=>
j78 true (AV.int .i64 x79)) (
j78 false Qa)) (
j78 false Qa)) fun j74=>
ZW v43 (fun b108=>
br b108 (
faK 0 v68 fun p75=>
j74 p75 h69) (
j74 Qa h69)) (
j74 Qa h69)) fun j70=>
ZW v43 (fun b109=>
br b109 (
ixK 2 v53 v63 fun p71=>
j70 p71 h64) (
j70 Qa h64)) (
j70 Qa h64)) fun j65=>
ZW v43 (fun b110=>
br b110 (
asI .i64 v59 fun x66=>
fI (Qc .i64 (Int.sub x66 (Int.ofNat 1))) fun x67=>
j65 (AV.int .i64 x67) h60) (
j65 Qa h60)) (
j65 Qa h60)) fun j61=>
ZW v43 (fun b111=>
br b111 (
Zi v56 fun x62=>
j61 (AV.int .i64 (Int.ofNat x62)) h57) (
j61 Qa h57)) (
j61 Qa h57)) fun j58=>
ZW v43 (fun b112=>
br b112 (
j58 v14.1 h54) (
j58 Qa h54)) (
j58 Qa h54)) fun j55=>
ZW v43 (fun b113=>
br b113 (
j55 v14.1 h47) (
j55 Qa h47)) (
j55 Qa h47)) fun j51=>
ZW v43 (fun b114=>
br b114 (
ldI .i64 v46 h47 fun x52=>
j51 true (AV.int .i64 x52)) (
j51 false Qa)) (
j51 false Qa)) fun j48=>
ZW v43 (fun b115=>
br b115 (
j48 (AV.ptr n26 0) h44) (
j48 Qa h44)) (
j48 Qa h44)) fun j45=>
br b30 (
j45 Qa h39) (
j45 v38 h39)) fun j40=>
br b30 (
j40 Qa h35) (
asI .i64 v34 fun x41=>
fB (ltI (Int.ofNat 0) x41) fun b42=>
j40 (AV.bool b42) h35)) fun j36=>
br b30 (
j36 Qa h32) (
Zi v31 fun x37=>
j36 (AV.int .i64 (Int.ofNat x37)) h32)) fun j33=>
br b30 (
j33 Qa h28) (
j33 v14.1 h28)) (
Qr (gam J [(26,w26 c26),(32,w32 c32),(33,w33 c33),(34,w34 c34)]) d15 h16 fun h116=>
k v14.1 (Int.ofNat 0) h116)) (a2,v9,(AV.int .i64 (Int.ofNat x13)),(AV.int .i64 (Int.ofNat 0)),()) [] h8))
def s19:AV→Int→AV→H→(AV→Int→H→Prop)→Prop:=Qbm J0 s26 s32 s33 s34
def w19 (c:AV→Int→AV→H→(AV→Int→H→Prop)→Prop):Fun:=fun xs h k=>arg xs fun a0 xs=>arg xs fun a1 xs=>arg xs fun a2 xs=>QV xs <| asI .i64 a1 fun a1=>c a0 a1 a2 h fun r0 r1 h=>k (.tuple [r0,(.int .i64 r1)]) h
theorem QeA (J:Qg) (c26:Int→H→(Str→Int→H→Prop)→Prop) (c32:AV→Str→H→(AV→Int→H→Prop)→Prop) (c33:AV→H→(AV→Int→Int→H→Prop)→Prop) (c34:AV→H→(AV→Int→H→Prop)→Prop) (a0:AV) (a1:Int) (a2:AV) (h:H) (k:AV→H→Prop):Zk ty (gam J [(26,w26 c26),(32,w32 c32),(33,w33 c33),(34,w34 c34)]) Tryd.f19 [a0,(.int .i64 a1),a2] h k=Qbm J c26 c32 c33 c34 a0 a1 a2 h (fun r0 r1 h=>k (.tuple [r0,(.int .i64 r1)]) h):=by kernel_rfl
def g19:Fun:=w19 s19
theorem g19_ok:Qp Tryd.prog 19 g19:=(Qz QF QG (Qu (J:=J0) (Qb QaG (Qb NF (Qb g33_ok (Qb Qfi (Qn Qo)))))) Tryd.func19 (fun args w=>by simp)).imp fun xs h k e0=>by
  obtain ⟨a0,xs0,rfl,e1⟩:=Qf e0
  obtain ⟨a1,xs1,rfl,e2⟩:=Qf e1
  obtain ⟨a2,xs2,rfl,e3⟩:=Qf e2
  obtain ⟨rfl,e4⟩:=Qj e3
  obtain ⟨a1,rfl,e5⟩:=QI.1 e4
  exact (QeA J0 s26 s32 s33 s34 a0 a1 a2 h k).mpr e5
def Qbl (J:Qg) (a0:AV) (a1:Int) (h:H) (k:Int→H→Prop):Prop :=
Qv a0 (
faK 3 a0 fun p1=>
ldB p1 h fun b2=>
J.jn (fun v3 h4=>
J.jn (fun v6 h7=>
QY (AV.bool b2) (AV.bool true) v6 fun b11=>
Qv a0 (
faK 3 a0 fun p12=>
stV p12 (AV.bool b11) h7 fun h13=>
k a1 h13)) fun j8=>
br b2 (
j8 Qa h4) (
asI .i64 v3 fun x9=>
fB (eqI x9 (Int.ofNat 7)) fun b10=>
j8 (AV.bool b10) h4)) fun j5=>
br b2 (
j5 Qa h) (
j5 (AV.int .i64 a1) h))
def s27:AV→Int→H→(Int→H→Prop)→Prop:=Qbl J0
def w27 (c:AV→Int→H→(Int→H→Prop)→Prop):Fun:=fun xs h k=>arg xs fun a0 xs=>arg xs fun a1 xs=>QV xs <| asI .i64 a1 fun a1=>c a0 a1 h fun r0 h=>k (.int .i64 r0) h
theorem s27_eq (J:Qg) (a0:AV) (a1:Int) (h:H) (k:AV→H→Prop):Zk ty (gam J []) Tryd.f27 [a0,(.int .i64 a1)] h k=Qbl J  a0 a1 h (fun r0 h=>k (.int .i64 r0) h):=by kernel_rfl
def g27:Fun:=w27 s27
theorem QaF:Qp Tryd.prog 27 g27:=(Qz QF QG (Qu (J:=J0) (Qn Qo)) Tryd.func27 (fun args w=>by simp)).imp fun xs h k e0=>by
  obtain ⟨a0,xs0,rfl,e1⟩:=Qf e0
  obtain ⟨a1,xs1,rfl,e2⟩:=Qf e1
  obtain ⟨rfl,e3⟩:=Qj e2
  obtain ⟨a1,rfl,e4⟩:=QI.1 e3
  exact (s27_eq J0  a0 a1 h k).mpr e4
def s65G (J:Qg) (a0:AV) (h:H) (k:Int→H→Prop):Prop :=
Qv a0 (
faK 6 a0 fun p1=>
ldB p1 h fun b2=>
J.jn (fun v3 h4=>
J.jn (fun v6 h7=>
J.jn (fun v9 h10=>
J.jn (fun v13 h14=>
J.jn (fun v17 h18=>
QY (AV.bool b2) v17 (AV.bool false) fun b22=>
br b22 (
Qv a0 (
faK 5 a0 fun p23=>
stV p23 (AV.bool true) h18 fun h24=>
k (Int.ofNat 7) h24)) (
J.jd (α:=AV × Unit) (fun v25 d26 h27=>
Qv v25.1 (
faK 8 v25.1 fun p29=>
ldI .i64 p29 h27 fun x30=>
fI (Qc .i64 (Int.add x30 (Int.ofNat 1))) fun x31=>
Qv v25.1 (
faK 8 v25.1 fun p32=>
stV p32 (AV.int .i64 x31) h27 fun h33=>
Qr (gam J []) d26 h33 fun h34=>
k (Int.ofNat 0) h34))) fun j28=>
Qv a0 (
faK 6 a0 fun p35=>
ldB p35 h18 fun b36=>
br b36 (
Qv a0 (
faK 7 a0 fun p37=>
ldI .i64 p37 h18 fun x38=>
fI (Qc .i64 (Int.sub x38 (Int.ofNat 1))) fun x39=>
Qv a0 (
faK 7 a0 fun p40=>
stV p40 (AV.int .i64 x39) h18 fun h41=>
j28 (a0,()) [] h41))) (
j28 (a0,()) [] h18)))) fun j19=>
br b2 (
asI .i64 v13 fun x20=>
fB (eqI x20 (Int.ofNat 0)) fun b21=>
j19 (AV.bool b21) h14) (
j19 Qa h14)) fun j15=>
br b2 (
ldI .i64 v9 h10 fun x16=>
j15 (AV.int .i64 x16) h10) (
j15 Qa h10)) fun j11=>
br b2 (
faK 7 v6 fun p12=>
j11 p12 h7) (
j11 Qa h7)) fun j8=>
br b2 (
Qv v3 (
j8 v3 h4)) (
j8 Qa h4)) fun j5=>
br b2 (
j5 a0 h) (
j5 Qa h))
def s65:AV→H→(Int→H→Prop)→Prop:=s65G J0
def w65 (c:AV→H→(Int→H→Prop)→Prop):Fun:=fun xs h k=>arg xs fun a0 xs=>QV xs <| c a0 h fun r0 h=>k (.int .i64 r0) h
theorem s65_eq (J:Qg) (a0:AV) (h:H) (k:AV→H→Prop):Zk ty (gam J []) Tryd.f65 [a0] h k=s65G J  a0 h (fun r0 h=>k (.int .i64 r0) h):=by kernel_rfl
def g65:Fun:=w65 s65
theorem Qe5:Qp Tryd.prog 65 g65:=(Qz QF QG (Qu (J:=J0) (Qn Qo)) Tryd.func65 (fun args w=>by simp)).imp fun xs h k e0=>by
  obtain ⟨a0,xs0,rfl,e1⟩:=Qf e0
  obtain ⟨rfl,e2⟩:=Qj e1
  exact (s65_eq J0  a0 h k).mpr e2
def s47G (J:Qg) (c65:AV→H→(Int→H→Prop)→Prop) (a0:AV) (a1:AV) (h:H) (k:Int→H→Prop):Prop :=
Go.Am.asAgg a1 fun l3=>
Qw (.cells false 75 l3) h fun n1 h2=>
c65 a0 h2 fun x5 h4=>
J.jd (α:=AV × Unit) (fun v6 d7 h8=>
Qr (gam J [(65,w65 c65)]) d7 h8 fun h10=>
asI .i64 v6.1 fun x11=>
k x11 h10) fun j9=>
fB (eqI x5 (Int.ofNat 0)) fun b12=>
br b12 (
Qv a0 (
faK 2 a0 fun p13=>
ldV p13 h4 fun v14=>
ldN 5 (AV.ptr n1 0) h4 fun l15=>
ck (Nat.beq (List.length l15) 5) (op' (Q7 0 l15 [(.int .i64 0),(.str ⟨0,0⟩),(.str ⟨0,0⟩),(.int .i64 0),(.nils)]) fun l18=>
Qw (.cells false 75 l18) h4 fun n16 h17=>
apC 75 5 72 v14 (AV.slice n16 0 1 1 5 true) h17 fun v19 h20=>
Qv a0 (
faK 2 a0 fun p21=>
stV p21 v19 h20 fun h22=>
j9 ((AV.int .i64 x5),()) [] h22)))) (
j9 ((AV.int .i64 x5),()) [] h4)
def s47:AV→AV→H→(Int→H→Prop)→Prop:=s47G J0 s65
def w47 (c:AV→AV→H→(Int→H→Prop)→Prop):Fun:=fun xs h k=>arg xs fun a0 xs=>arg xs fun a1 xs=>QV xs <| c a0 a1 h fun r0 h=>k (.int .i64 r0) h
theorem s47_eq (J:Qg) (c65:AV→H→(Int→H→Prop)→Prop) (a0:AV) (a1:AV) (h:H) (k:AV→H→Prop):Zk ty (gam J [(65,w65 c65)]) Tryd.f47 [a0,a1] h k=s47G J c65 a0 a1 h (fun r0 h=>k (.int .i64 r0) h):=by kernel_rfl
def g47:Fun:=w47 s47
theorem Qcw:Qp Tryd.prog 47 g47:=(Qz QF QG (Qu (J:=J0) (Qb Qe5 (Qn Qo))) Tryd.func47 (fun args w=>by simp)).imp fun xs h k e0=>by
  obtain ⟨a0,xs0,rfl,e1⟩:=Qf e0
  obtain ⟨a1,xs1,rfl,e2⟩:=Qf e1
  obtain ⟨rfl,e3⟩:=Qj e2
  exact (s47_eq J0 s65 a0 a1 h k).mpr e3
def s35G (J:Qg) (c21:AV→AV→H→(Int→H→Prop)→Prop) (c47:AV→AV→H→(Int→H→Prop)→Prop) (c51:AV→H→(AV→H→Prop)→Prop) (a0:AV) (a1:Str) (h:H) (k:Int→H→Prop):Prop :=
Qw (.cells false 9 [(AV.str a1)]) h fun n1 h2=>
c21 a0 (AV.slice n1 0 1 1 1 true) h2 fun x4 h3=>
fB (Bool.not (eqI x4 (Int.ofNat 0))) fun b5=>
br b5 (
k x4 h3) (
c51 a0 h3 fun v7 h6=>
Go.Am.asAgg v7 fun l8=>
op' (Q3 l8 1) fun v9=>
op' (QW ty 9 3 true v9 (AV.str a1) h6) fun v10=>
asTup v10 fun l11=>
op' (Q3 l11 0) fun v12=>
asI .i64 v12 fun x13=>
asTup v10 fun l14=>
op' (Q3 l14 1) fun v15=>
asB v15 fun b16=>
br b16 (
k (Int.ofNat 9) h6) (
Qv a0 (
faK 4 a0 fun p17=>
ldI .i64 p17 h6 fun x18=>
c47 a0 (AV.agg [(AV.int .i64 (Int.ofNat 1)),(AV.str a1),(.str ⟨0,0⟩),(AV.int .i64 x18),(.nils)]) h6 fun x20 h19=>
Qv a0 (
faK 4 a0 fun p21=>
ldI .i64 p21 h19 fun x22=>
fI (Qc .i64 (Int.add x22 (Int.ofNat 1))) fun x23=>
Qv a0 (
faK 4 a0 fun p24=>
stV p24 (AV.int .i64 x23) h19 fun h25=>
k x20 h25)))))
def s35:AV→Str→H→(Int→H→Prop)→Prop:=s35G J0 s21 s47 s51
def w35 (c:AV→Str→H→(Int→H→Prop)→Prop):Fun:=fun xs h k=>arg xs fun a0 xs=>arg xs fun a1 xs=>QV xs <| asS a1 fun a1=>c a0 a1 h fun r0 h=>k (.int .i64 r0) h
theorem s35_eq (J:Qg) (c21:AV→AV→H→(Int→H→Prop)→Prop) (c47:AV→AV→H→(Int→H→Prop)→Prop) (c51:AV→H→(AV→H→Prop)→Prop) (a0:AV) (a1:Str) (h:H) (k:AV→H→Prop):Zk ty (gam J [(21,w21 c21),(47,w47 c47),(51,w51 c51)]) Tryd.f35 [a0,(.str a1)] h k=s35G J c21 c47 c51 a0 a1 h (fun r0 h=>k (.int .i64 r0) h):=by kernel_rfl
def g35:Fun:=w35 s35
theorem Qfh:Qp Tryd.prog 35 g35:=(Qz QF QG (Qu (J:=J0) (Qb NG (Qb Qcw (Qb QaC (Qn Qo))))) Tryd.func35 (fun args w=>by simp)).imp fun xs h k e0=>by
  obtain ⟨a0,xs0,rfl,e1⟩:=Qf e0
  obtain ⟨a1,xs1,rfl,e2⟩:=Qf e1
  obtain ⟨rfl,e3⟩:=Qj e2
  obtain ⟨a1,rfl,e4⟩:=ZE.1 e3
  exact (s35_eq J0 s21 s47 s51 a0 a1 h k).mpr e4
def s50G (J:Qg) (a0:AV) (a1:AV) (h:H) (k:Bool→H→Prop):Prop :=
Go.Am.asAgg a0 fun l3=>
Qw (.cells false 75 l3) h fun n1 h2=>
ldI .i64 (AV.ptr n1 0) h2 fun x4=>
fB (eqI x4 (Int.ofNat 0)) fun b5=>
J.jn (fun v6 h7=>
J.jn (fun v9 h10=>
J.jn (fun v13 h14=>
J.jn (fun v17 h18=>
QY (AV.bool b5) v17 (AV.bool false) fun b23=>
k b23 h18) fun j19=>
br b5 (
asI .i64 v9 fun x20=>
asI .i64 v13 fun x21=>
fB (eqI x20 x21) fun b22=>
j19 (AV.bool b22) h14) (
j19 Qa h14)) fun j15=>
br b5 (
ldI .i64 a1 h10 fun x16=>
j15 (AV.int .i64 x16) h10) (
j15 Qa h10)) fun j11=>
br b5 (
ldI .i64 v6 h7 fun x12=>
j11 (AV.int .i64 x12) h7) (
j11 Qa h7)) fun j8=>
br b5 (
j8 (AV.ptr n1 3) h2) (
j8 Qa h2)
def s50:AV→AV→H→(Bool→H→Prop)→Prop:=s50G J0
def w50 (c:AV→AV→H→(Bool→H→Prop)→Prop):Fun:=fun xs h k=>arg xs fun a0 xs=>arg xs fun a1 xs=>QV xs <| c a0 a1 h fun r0 h=>k (.bool r0) h
theorem s50_eq (J:Qg) (a0:AV) (a1:AV) (h:H) (k:AV→H→Prop):Zk ty (gam J []) Tryd.f50 [a0,a1] h k=s50G J  a0 a1 h (fun r0 h=>k (.bool r0) h):=by kernel_rfl
def g50:Fun:=w50 s50
theorem Qe8:Qp Tryd.prog 50 g50:=(Qz QF QG (Qu (J:=J0) (Qn Qo)) Tryd.func50 (fun args w=>by simp)).imp fun xs h k e0=>by
  obtain ⟨a0,xs0,rfl,e1⟩:=Qf e0
  obtain ⟨a1,xs1,rfl,e2⟩:=Qf e1
  obtain ⟨rfl,e3⟩:=Qj e2
  exact (s50_eq J0  a0 a1 h k).mpr e3
def s55G (J:Qg) (a0:AV) (h:H) (k:Bool→H→Prop):Prop :=
Go.Am.asAgg a0 fun l3=>
Qw (.cells false 75 l3) h fun n1 h2=>
ldI .i64 (AV.ptr n1 0) h2 fun x4=>
fB (Bool.not (eqI x4 (Int.ofNat 0))) fun b5=>
k b5 h2
def s55:AV→H→(Bool→H→Prop)→Prop:=s55G J0
def w55 (c:AV→H→(Bool→H→Prop)→Prop):Fun:=fun xs h k=>arg xs fun a0 xs=>QV xs <| c a0 h fun r0 h=>k (.bool r0) h
theorem s55_eq (J:Qg) (a0:AV) (h:H) (k:AV→H→Prop):Zk ty (gam J []) Tryd.f55 [a0] h k=s55G J  a0 h (fun r0 h=>k (.bool r0) h):=by kernel_rfl
def g55:Fun:=w55 s55
theorem Qe6:Qp Tryd.prog 55 g55:=(Qz QF QG (Qu (J:=J0) (Qn Qo)) Tryd.func55 (fun args w=>by simp)).imp fun xs h k e0=>by
  obtain ⟨a0,xs0,rfl,e1⟩:=Qf e0
  obtain ⟨rfl,e2⟩:=Qj e1
  exact (s55_eq J0  a0 h k).mpr e2
def s49G (J:Qg) (c30:AV→AV→H→(H→Prop)→Prop) (c50:AV→AV→H→(Bool→H→Prop)→Prop) (c55:AV→H→(Bool→H→Prop)→Prop) (c65:AV→H→(Int→H→Prop)→Prop) (a0:AV) (a1:AV) (h:H) (k:Int→H→Prop):Prop :=
c65 a0 h fun x2 h1=>
fB (Bool.not (eqI x2 (Int.ofNat 0))) fun b3=>
br b3 (
k x2 h1) (
Qv a0 (
faK 2 a0 fun p4=>
ldV p4 h1 fun v5=>
Zi v5 fun x6=>
J.lp (α:=AV × AV × AV × AV × AV × AV × Unit) (fun r10 v7 d8 h9=>
asI .i64 v7.2.2.2.2.2.1 fun x11=>
asI .i64 v7.2.2.2.2.1 fun x12=>
fB (ltI x11 x12) fun b13=>
br b13 (
J.jd (α:=AV × AV × AV × AV × AV × AV × Unit) (fun v14 d15 h16=>
asI .i64 v14.2.2.2.2.2.1 fun x18=>
fI (Qc .i64 (Int.add x18 (Int.ofNat 1))) fun x19=>
r10 (v14.1,v14.2.1,v14.2.2.1,v14.2.2.2.1,v14.2.2.2.2.1,(AV.int .i64 x19),()) d15 h16) fun j17=>
ixK 5 v7.2.2.2.1 v7.2.2.2.2.2.1 fun p20=>
ldN 5 p20 h9 fun l21=>
Qw (.cells false 75 [(.int .i64 0),(.str ⟨0,0⟩),(.str ⟨0,0⟩),(.int .i64 0),(.nils)]) h9 fun n22 h23=>
stN 5 (AV.ptr n22 0) l21 h23 fun h24=>
ldN 5 (AV.ptr n22 0) h24 fun l25=>
Xc (gam J [(30,w30 c30),(50,w50 c50),(55,w55 c55),(65,w65 c65)]) v7.2.1 [(AV.agg l25)] h24 fun v26 h27=>
asB v26 fun b28=>
br b28 (
Qv v7.1 (
faK 0 v7.1 fun p29=>
ldN 2 p29 h27 fun l30=>
ldN 5 (AV.ptr n22 0) h27 fun l31=>
c30 (AV.agg l30) (AV.agg l31) h27 fun  h32=>
j17 (v7.1,v7.2.1,v7.2.2.1,v7.2.2.2.1,v7.2.2.2.2.1,v7.2.2.2.2.2.1,()) d8 h32)) (
ldN 5 (AV.ptr n22 0) h27 fun l33=>
ck (Nat.beq (List.length l33) 5) (op' (Q7 0 l33 [(.int .i64 0),(.str ⟨0,0⟩),(.str ⟨0,0⟩),(.int .i64 0),(.nils)]) fun l36=>
Qw (.cells false 75 l36) h27 fun n34 h35=>
apC 75 5 72 v7.2.2.1 (AV.slice n34 0 1 1 5 true) h35 fun v37 h38=>
j17 (v7.1,v7.2.1,v37,v7.2.2.2.1,v7.2.2.2.2.1,v7.2.2.2.2.2.1,()) d8 h38))) (
Qv v7.1 (
faK 2 v7.1 fun p39=>
stV p39 v7.2.2.1 h9 fun h40=>
Qr (gam J [(30,w30 c30),(50,w50 c50),(55,w55 c55),(65,w65 c65)]) d8 h40 fun h41=>
k (Int.ofNat 0) h41))) (a0,a1,AV.nils,v5,(AV.int .i64 (Int.ofNat x6)),(AV.int .i64 (Int.ofNat 0)),()) [] h1))
def s49:AV→AV→H→(Int→H→Prop)→Prop:=s49G J0 s30 s50 s55 s65
def w49 (c:AV→AV→H→(Int→H→Prop)→Prop):Fun:=fun xs h k=>arg xs fun a0 xs=>arg xs fun a1 xs=>QV xs <| c a0 a1 h fun r0 h=>k (.int .i64 r0) h
theorem s49_eq (J:Qg) (c30:AV→AV→H→(H→Prop)→Prop) (c50:AV→AV→H→(Bool→H→Prop)→Prop) (c55:AV→H→(Bool→H→Prop)→Prop) (c65:AV→H→(Int→H→Prop)→Prop) (a0:AV) (a1:AV) (h:H) (k:AV→H→Prop):Zk ty (gam J [(30,w30 c30),(50,w50 c50),(55,w55 c55),(65,w65 c65)]) Tryd.f49 [a0,a1] h k=s49G J c30 c50 c55 c65 a0 a1 h (fun r0 h=>k (.int .i64 r0) h):=by kernel_rfl
def g49:Fun:=w49 s49
theorem Qe9:Qp Tryd.prog 49 g49:=(Qz QF QG (Qu (J:=J0) (Qb Qcx (Qb Qe8 (Qb Qe6 (Qb Qe5 (Qn Qo)))))) Tryd.func49 (fun args w=>by simp)).imp fun xs h k e0=>by
  obtain ⟨a0,xs0,rfl,e1⟩:=Qf e0
  obtain ⟨a1,xs1,rfl,e2⟩:=Qf e1
  obtain ⟨rfl,e3⟩:=Qj e2
  exact (s49_eq J0 s30 s50 s55 s65 a0 a1 h k).mpr e3
def s36G (J:Qg) (c21:AV→AV→H→(Int→H→Prop)→Prop) (c49:AV→AV→H→(Int→H→Prop)→Prop) (c55:AV→H→(Bool→H→Prop)→Prop) (a0:AV) (h:H) (k:Int→H→Prop):Prop :=
c21 a0 AV.nils h fun x2 h1=>
fB (Bool.not (eqI x2 (Int.ofNat 0))) fun b3=>
br b3 (
k x2 h1) (
c49 a0 (AV.func (.func 55) [] []) h1 fun x5 h4=>
k x5 h4)
def s36:AV→H→(Int→H→Prop)→Prop:=s36G J0 s21 s49 s55
def w36 (c:AV→H→(Int→H→Prop)→Prop):Fun:=fun xs h k=>arg xs fun a0 xs=>QV xs <| c a0 h fun r0 h=>k (.int .i64 r0) h
theorem s36_eq (J:Qg) (c21:AV→AV→H→(Int→H→Prop)→Prop) (c49:AV→AV→H→(Int→H→Prop)→Prop) (c55:AV→H→(Bool→H→Prop)→Prop) (a0:AV) (h:H) (k:AV→H→Prop):Zk ty (gam J [(21,w21 c21),(49,w49 c49),(55,w55 c55)]) Tryd.f36 [a0] h k=s36G J c21 c49 c55 a0 h (fun r0 h=>k (.int .i64 r0) h):=by kernel_rfl
def g36:Fun:=w36 s36
theorem Qfg:Qp Tryd.prog 36 g36:=(Qz QF QG (Qu (J:=J0) (Qb NG (Qb Qe9 (Qb Qe6 (Qn Qo))))) Tryd.func36 (fun args w=>by simp)).imp fun xs h k e0=>by
  obtain ⟨a0,xs0,rfl,e1⟩:=Qf e0
  obtain ⟨rfl,e2⟩:=Qj e1
  exact (s36_eq J0 s21 s49 s55 a0 h k).mpr e2
def Qez (J:Qg) (c26:Int→H→(Str→Int→H→Prop)→Prop) (c27:AV→Int→H→(Int→H→Prop)→Prop) (c35:AV→Str→H→(Int→H→Prop)→Prop) (c36:AV→H→(Int→H→Prop)→Prop) (a0:AV) (h:H) (k:Int→H→Prop):Prop :=
Qv a0 (
faK 2 a0 fun p1=>
ldI .i64 p1 h fun x2=>
fI (Qc .i64 (Int.add x2 (Int.ofNat 1))) fun x3=>
c26 x3 h fun s5 x6 h4=>
fB (Bool.not (eqI x6 (Int.ofNat 0))) fun b7=>
br b7 (
k (Int.ofNat 3) h4) (
Qv a0 (
faK 0 a0 fun p8=>
ldV p8 h4 fun v9=>
c35 v9 s5 h4 fun x11 h10=>
c27 a0 x11 h10 fun x13 h12=>
fB (Bool.not (eqI x13 (Int.ofNat 0))) fun b14=>
br b14 (
k x13 h12) (
Qv a0 (
faK 0 a0 fun p15=>
ldV p15 h12 fun v16=>
c36 v16 h12 fun x18 h17=>
c27 a0 x18 h17 fun x20 h19=>
fB (Bool.not (eqI x20 (Int.ofNat 0))) fun b21=>
br b21 (
k x20 h19) (
Qv a0 (
faK 2 a0 fun p22=>
ldI .i64 p22 h19 fun x23=>
fI (Qc .i64 (Int.add x23 (Int.ofNat 1))) fun x24=>
Qv a0 (
faK 2 a0 fun p25=>
stV p25 (AV.int .i64 x24) h19 fun h26=>
k (Int.ofNat 0) h26))))))))
def s20:AV→H→(Int→H→Prop)→Prop:=Qez J0 s26 s27 s35 s36
def w20 (c:AV→H→(Int→H→Prop)→Prop):Fun:=fun xs h k=>arg xs fun a0 xs=>QV xs <| c a0 h fun r0 h=>k (.int .i64 r0) h
theorem Qey (J:Qg) (c26:Int→H→(Str→Int→H→Prop)→Prop) (c27:AV→Int→H→(Int→H→Prop)→Prop) (c35:AV→Str→H→(Int→H→Prop)→Prop) (c36:AV→H→(Int→H→Prop)→Prop) (a0:AV) (h:H) (k:AV→H→Prop):Zk ty (gam J [(26,w26 c26),(27,w27 c27),(35,w35 c35),(36,w36 c36)]) Tryd.f20 [a0] h k=Qez J c26 c27 c35 c36 a0 h (fun r0 h=>k (.int .i64 r0) h):=by kernel_rfl
def g20:Fun:=w20 s20
theorem g20_ok:Qp Tryd.prog 20 g20:=(Qz QF QG (Qu (J:=J0) (Qb QaG (Qb QaF (Qb Qfh (Qb Qfg (Qn Qo)))))) Tryd.func20 (fun args w=>by simp)).imp fun xs h k e0=>by
  obtain ⟨a0,xs0,rfl,e1⟩:=Qf e0
  obtain ⟨rfl,e2⟩:=Qj e1
  exact (Qey J0 s26 s27 s35 s36 a0 h k).mpr e2
def s6G (J:Qg) (c17:AV→H→(Int→H→Prop)→Prop) (c18:AV→Int→H→(Bool→H→Prop)→Prop) (c19:AV→Int→AV→H→(AV→Int→H→Prop)→Prop) (c20:AV→H→(Int→H→Prop)→Prop) (a0:AV) (a1:Int) (a2:Int) (h:H) (k:AV→AV→Int→H→Prop):Prop :=
c17 a0 h fun x2 h1=>
fB (Bool.not (eqI x2 (Int.ofNat 0))) fun b3=>
br b3 (
k AV.nilp AV.nils x2 h1) (
fB (ltI a1 (Int.ofNat 1)) fun b4=>
J.jn (fun v5 h6=>
J.jn (fun v8 h9=>
QY (AV.bool b4) (AV.bool true) v8 fun b13=>
J.jn (fun v14 h15=>
J.jn (fun v17 h18=>
QY (AV.bool b13) (AV.bool true) v17 fun b22=>
J.jn (fun v23 h24=>
J.jn (fun v26 h27=>
QY (AV.bool b22) (AV.bool true) v26 fun b31=>
br b31 (
k AV.nilp AV.nils (Int.ofNat 2) h27) (
J.lp (α:=AV × AV × AV × AV × Unit) (fun r35 v32 d33 h34=>
asI .i64 v32.2.2.2.1 fun x37=>
c18 v32.1 x37 h34 fun b38 h36=>
br b38 (
asI .i64 v32.2.2.2.1 fun x40=>
c19 v32.1 x40 v32.2.2.1 h36 fun v41 x42 h39=>
fB (Bool.not (eqI x42 (Int.ofNat 0))) fun b43=>
br b43 (
Qr (gam J [(17,w17 c17),(18,w18 c18),(19,w19 c19),(20,w20 c20)]) d33 h39 fun h44=>
k AV.nilp AV.nils x42 h44) (
asI .i64 v32.2.2.2.1 fun x45=>
fI (Qc .i64 (Int.add x45 (Int.ofNat 1))) fun x46=>
r35 (v32.1,v32.2.1,v41,(AV.int .i64 x46),()) d33 h39)) (
Zi v32.2.2.1 fun x47=>
fB (ltI (Int.ofNat 0) (Int.ofNat x47)) fun b48=>
J.jn (fun v49 h50=>
J.jn (fun v52 h53=>
J.jn (fun v56 h57=>
J.jn (fun v60 h61=>
J.jn (fun v64 h65=>
J.jn (fun v67 h68=>
J.jn (fun v72 h73=>
J.jn (fun v78 h79=>
J.jn (fun v81 h82=>
J.jn (fun v84 h85=>
J.jn (fun v87 h88=>
J.jn (fun v92 h93=>
J.jn (fun v96 h97=>
J.jn (fun v100 h101=>
J.jn (fun v104 h105=>
J.jn (fun v107 h108=>
J.jn (fun v113 h114=>
QY (AV.bool b48) v113 (AV.bool false) fun b117=>
br b117 (
Qr (gam J [(17,w17 c17),(18,w18 c18),(19,w19 c19),(20,w20 c20)]) d33 h114 fun h118=>
k AV.nilp AV.nils (Int.ofNat 6) h118) (
asI .i64 v32.2.2.2.1 fun x119=>
fI (Qc .i64 (Int.sub x119 (Int.ofNat 1))) fun x120=>
ck (Zv v32.1) (asI .i64 v32.2.1 fun x121=>
Qw (.cells false 61 [v32.1,(AV.int .i64 x121),(AV.int .i64 x120),(.bool false),(AV.bool true)]) h114 fun n122 h123=>
c20 (AV.ptr n122 0) h123 fun x125 h124=>
fB (Bool.not (eqI x125 (Int.ofNat 0))) fun b126=>
br b126 (
Qr (gam J [(17,w17 c17),(18,w18 c18),(19,w19 c19),(20,w20 c20)]) d33 h124 fun h127=>
k AV.nilp AV.nils x125 h127) (
J.jd (α:=AV × AV × AV × Unit) (fun v128 d129 h130=>
J.lp (α:=AV × AV × AV × Unit) (fun r135 v132 d133 h134=>
Zi v132.2.1 fun x136=>
fB (ltI (Int.ofNat 0) (Int.ofNat x136)) fun b137=>
J.jn (fun v138 h139=>
J.jn (fun v141 h142=>
J.jn (fun v145 h146=>
J.jn (fun v149 h150=>
J.jn (fun v153 h154=>
J.jn (fun v156 h157=>
QY (AV.bool b137) v156 (AV.bool false) fun b162=>
br b162 (
slK 2 v132.2.1 (some (AV.int .i64 (Int.ofNat 1))) none fun v163=>
r135 (v132.1,v163,v132.2.2.1,()) d133 h157) (
Qr (gam J [(17,w17 c17),(18,w18 c18),(19,w19 c19),(20,w20 c20)]) d133 h157 fun h164=>
k v132.2.2.1 v132.2.1 (Int.ofNat 0) h164)) fun j158=>
br b137 (
asI .i64 v149 fun x159=>
asI .i64 v153 fun x160=>
fB (Bool.not (ltI x160 x159)) fun b161=>
j158 (AV.bool b161) h154) (
j158 Qa h154)) fun j155=>
br b137 (
j155 v132.1 h150) (
j155 Qa h150)) fun j151=>
br b137 (
ldI .i64 v145 h146 fun x152=>
j151 (AV.int .i64 x152) h146) (
j151 Qa h146)) fun j147=>
br b137 (
faK 0 v141 fun p148=>
j147 p148 h142) (
j147 Qa h142)) fun j143=>
br b137 (
ixK 2 v138 (AV.int .i64 (Int.ofNat 0)) fun p144=>
j143 p144 h139) (
j143 Qa h139)) fun j140=>
br b137 (
j140 v132.2.1 h134) (
j140 Qa h134)) (v128.1,v128.2.1,v128.2.2.1,()) d129 h130) fun j131=>
Zi v32.2.2.1 fun x165=>
fB (ltI (Int.ofNat 0) (Int.ofNat x165)) fun b166=>
br b166 (
fI (Qc .i64 (Int.sub (Int.ofNat x165) (Int.ofNat 1))) fun x167=>
ixK 2 v32.2.2.1 (AV.int .i64 x167) fun p168=>
faK 0 p168 fun p169=>
ldI .i64 p169 h124 fun x170=>
stV (AV.ptr n122 1) (AV.int .i64 x170) h124 fun h171=>
j131 (v32.2.1,v32.2.2.1,(AV.ptr n122 0),()) d33 h171) (
j131 (v32.2.1,v32.2.2.1,(AV.ptr n122 0),()) d33 h124))))) fun j115=>
br b48 (
QY v78 (AV.bool true) v107 fun b116=>
j115 (AV.bool b116) h108) (
j115 Qa h108)) fun j109=>
ZW v78 (fun b172=>
br b172 (
j109 Qa h105) (
asI .i64 v100 fun x110=>
asI .i64 v104 fun x111=>
fB (ltI x110 x111) fun b112=>
j109 (AV.bool b112) h105)) (
j109 Qa h105)) fun j106=>
ZW v78 (fun b173=>
br b173 (
j106 Qa h101) (
j106 v32.2.1 h101)) (
j106 Qa h101)) fun j102=>
ZW v78 (fun b174=>
br b174 (
j102 Qa h97) (
ldI .i64 v96 h97 fun x103=>
j102 (AV.int .i64 x103) h97)) (
j102 Qa h97)) fun j98=>
ZW v78 (fun b175=>
br b175 (
j98 Qa h93) (
faK 0 v92 fun p99=>
j98 p99 h93)) (
j98 Qa h93)) fun j94=>
ZW v78 (fun b176=>
br b176 (
j94 Qa h88) (
ixK 2 v81 v87 fun p95=>
j94 p95 h88)) (
j94 Qa h88)) fun j89=>
ZW v78 (fun b177=>
br b177 (
j89 Qa h85) (
asI .i64 v84 fun x90=>
fI (Qc .i64 (Int.sub x90 (Int.ofNat 1))) fun x91=>
j89 (AV.int .i64 x91) h85)) (
j89 Qa h85)) fun j86=>
ZW v78 (fun b178=>
br b178 (
j86 Qa h82) (
j86 (AV.int .i64 (Int.ofNat x47)) h82)) (
j86 Qa h82)) fun j83=>
ZW v78 (fun b179=>
br b179 (
j83 Qa h79) (
j83 v32.2.2.1 h79)) (
j83 Qa h79)) fun j80=>
br b48 (
j80 v72 h73) (
j80 Qa h73)) fun j74=>
br b48 (
asI .i64 v60 fun x75=>
asI .i64 v67 fun x76=>
fB (ltI x76 x75) fun b77=>
j74 (AV.bool b77) h68) (
j74 Qa h68)) fun j69=>
br b48 (
asI .i64 v64 fun x70=>
fI (Qc .i64 (Int.add x70 (Int.ofNat 1))) fun x71=>
j69 (AV.int .i64 x71) h65) (
j69 Qa h65)) fun j66=>
br b48 (
j66 v32.2.1 h61) (
j66 Qa h61)) fun j62=>
br b48 (
ldI .i64 v56 h57 fun x63=>
j62 (AV.int .i64 x63) h57) (
j62 Qa h57)) fun j58=>
br b48 (
faK 0 v52 fun p59=>
j58 p59 h53) (
j58 Qa h53)) fun j54=>
br b48 (
ixK 2 v49 (AV.int .i64 (Int.ofNat 0)) fun p55=>
j54 p55 h50) (
j54 Qa h50)) fun j51=>
br b48 (
j51 v32.2.2.1 h36) (
j51 Qa h36))) (a0,(AV.int .i64 a2),AV.nils,(AV.int .i64 a1),()) [] h27)) fun j28=>
br b22 (
j28 Qa h24) (
asI .i64 v23 fun x29=>
fB (ltI (Int.ofNat 1073741824) x29) fun b30=>
j28 (AV.bool b30) h24)) fun j25=>
br b22 (
j25 Qa h18) (
j25 (AV.int .i64 a2) h18)) fun j19=>
br b13 (
j19 Qa h15) (
asI .i64 v14 fun x20=>
fB (ltI x20 (Int.ofNat 0)) fun b21=>
j19 (AV.bool b21) h15)) fun j16=>
br b13 (
j16 Qa h9) (
j16 (AV.int .i64 a2) h9)) fun j10=>
br b4 (
j10 Qa h6) (
asI .i64 v5 fun x11=>
fB (ltI (Int.ofNat 999999) x11) fun b12=>
j10 (AV.bool b12) h6)) fun j7=>
br b4 (
j7 Qa h1) (
j7 (AV.int .i64 a1) h1))
def s6:AV→Int→Int→H→(AV→AV→Int→H→Prop)→Prop:=s6G J0 s17 s18 s19 s20
def w6 (c:AV→Int→Int→H→(AV→AV→Int→H→Prop)→Prop):Fun:=fun xs h k=>arg xs fun a0 xs=>arg xs fun a1 xs=>arg xs fun a2 xs=>QV xs <| asI .i64 a1 fun a1=>asI .i64 a2 fun a2=>c a0 a1 a2 h fun r0 r1 r2 h=>k (.tuple [r0,r1,(.int .i64 r2)]) h
theorem s6_eq (J:Qg) (c17:AV→H→(Int→H→Prop)→Prop) (c18:AV→Int→H→(Bool→H→Prop)→Prop) (c19:AV→Int→AV→H→(AV→Int→H→Prop)→Prop) (c20:AV→H→(Int→H→Prop)→Prop) (a0:AV) (a1:Int) (a2:Int) (h:H) (k:AV→H→Prop):Zk ty (gam J [(17,w17 c17),(18,w18 c18),(19,w19 c19),(20,w20 c20)]) Tryd.f6 [a0,(.int .i64 a1),(.int .i64 a2)] h k=s6G J c17 c18 c19 c20 a0 a1 a2 h (fun r0 r1 r2 h=>k (.tuple [r0,r1,(.int .i64 r2)]) h):=by kernel_rfl
def g6:Fun:=w6 s6
theorem g6_ok:Qp Tryd.prog 6 g6:=(Qz QF QG (Qu (J:=J0) (Qb Qcz (Qb g18_ok (Qb g19_ok (Qb g20_ok (Qn Qo)))))) Tryd.func6 (fun args w=>by simp)).imp fun xs h k e0=>by
  obtain ⟨a0,xs0,rfl,e1⟩:=Qf e0
  obtain ⟨a1,xs1,rfl,e2⟩:=Qf e1
  obtain ⟨a2,xs2,rfl,e3⟩:=Qf e2
  obtain ⟨rfl,e4⟩:=Qj e3
  obtain ⟨a1,rfl,e5⟩:=QI.1 e4
  obtain ⟨a2,rfl,e6⟩:=QI.1 e5
  exact (s6_eq J0 s17 s18 s19 s20 a0 a1 a2 h k).mpr e6
def Na (J:Qg) (c17:AV→H→(Int→H→Prop)→Prop) (a0:AV) (h:H) (k:Int→H→Prop):Prop :=
nilB 0 a0 fun b1=>
J.jn (fun v2 h3=>
J.jn (fun v5 h6=>
J.jn (fun v8 h9=>
J.jn (fun v12 h13=>
J.jn (fun v16 h17=>
QY (AV.bool b1) (AV.bool true) v16 fun b21=>
br b21 (
k (Int.ofNat 1) h17) (
Qv a0 (
faK 3 a0 fun p22=>
ldB p22 h17 fun b23=>
J.jn (fun v24 h25=>
J.jn (fun v27 h28=>
J.jn (fun v30 h31=>
J.jn (fun v34 h35=>
J.jn (fun v38 h39=>
J.jn (fun v43 h44=>
QY (AV.bool b23) (AV.bool true) v43 fun b48=>
br b48 (
Qv a0 (
faK 3 a0 fun p49=>
stV p49 (AV.bool true) h44 fun h50=>
k (Int.ofNat 7) h50)) (
k (Int.ofNat 0) h44)) fun j45=>
br b23 (
j45 Qa h39) (
asI .i64 v38 fun x46=>
fB (Bool.not (eqI x46 (Int.ofNat 0))) fun b47=>
j45 (AV.bool b47) h39)) fun j40=>
br b23 (
j40 Qa h35) (
c17 v34 h35 fun x42 h41=>
j40 (AV.int .i64 x42) h41)) fun j36=>
br b23 (
j36 Qa h31) (
ldV v30 h31 fun v37=>
j36 v37 h31)) fun j32=>
br b23 (
j32 Qa h28) (
faK 0 v27 fun p33=>
j32 p33 h28)) fun j29=>
br b23 (
j29 Qa h25) (
Qv v24 (
j29 v24 h25))) fun j26=>
br b23 (
j26 Qa h17) (
j26 a0 h17)))) fun j18=>
br b1 (
j18 Qa h13) (
asB v12 fun b19=>
fB (Bool.not b19) fun b20=>
j18 (AV.bool b20) h13)) fun j14=>
br b1 (
j14 Qa h9) (
ldB v8 h9 fun b15=>
j14 (AV.bool b15) h9)) fun j10=>
br b1 (
j10 Qa h6) (
faK 4 v5 fun p11=>
j10 p11 h6)) fun j7=>
br b1 (
j7 Qa h3) (
Qv v2 (
j7 v2 h3))) fun j4=>
br b1 (
j4 Qa h) (
j4 a0 h)
def s22:AV→H→(Int→H→Prop)→Prop:=Na J0 s17
def w22 (c:AV→H→(Int→H→Prop)→Prop):Fun:=fun xs h k=>arg xs fun a0 xs=>QV xs <| c a0 h fun r0 h=>k (.int .i64 r0) h
theorem s22_eq (J:Qg) (c17:AV→H→(Int→H→Prop)→Prop) (a0:AV) (h:H) (k:AV→H→Prop):Zk ty (gam J [(17,w17 c17)]) Tryd.f22 [a0] h k=Na J c17 a0 h (fun r0 h=>k (.int .i64 r0) h):=by kernel_rfl
def g22:Fun:=w22 s22
theorem Qcy:Qp Tryd.prog 22 g22:=(Qz QF QG (Qu (J:=J0) (Qb Qcz (Qn Qo))) Tryd.func22 (fun args w=>by simp)).imp fun xs h k e0=>by
  obtain ⟨a0,xs0,rfl,e1⟩:=Qf e0
  obtain ⟨rfl,e2⟩:=Qj e1
  exact (s22_eq J0 s17 a0 h k).mpr e2
def Qal (J:Qg) (a0:AV) (a1:Int) (h:H) (k:AV→H→Prop):Prop :=
apB (.slice 5) 5 AV.nils a0 h fun v1 h2=>
J.lp (α:=AV × AV × Unit) (fun r6 v3 d4 h5=>
asI .u64 v3.1 fun x7=>
fB (Bool.not (ltI x7 (Int.ofNat 128))) fun b8=>
br b8 (
asI .u64 v3.1 fun x9=>
fI (Qc .u8 x9) fun x10=>
fI (Uv .u8 x10 (Int.ofNat 128)) fun x11=>
op' (Wc true 5 [(AV.int .u8 x11)]) fun k14=>
Qw k14 h5 fun n12 h13=>
apB (.slice 5) 5 v3.2.1 (AV.slice n12 0 1 1 1 true) h13 fun v15 h16=>
asI .u64 v3.1 fun x17=>
fI (Uo x17 (Vl 7 (IntKind.bits .u64))) fun x18=>
r6 ((AV.int .u64 x18),v15,()) d4 h16) (
asI .u64 v3.1 fun x19=>
fI (Qc .u8 x19) fun x20=>
op' (Wc true 5 [(AV.int .u8 x20)]) fun k23=>
Qw k23 h5 fun n21 h22=>
apB (.slice 5) 5 v3.2.1 (AV.slice n21 0 1 1 1 true) h22 fun v24 h25=>
Qr (gam J []) d4 h25 fun h26=>
k v24 h26)) ((AV.int .u64 a1),v1,()) [] h2
def s39:AV→Int→H→(AV→H→Prop)→Prop:=Qal J0
def w39 (c:AV→Int→H→(AV→H→Prop)→Prop):Fun:=fun xs h k=>arg xs fun a0 xs=>arg xs fun a1 xs=>QV xs <| asI .u64 a1 fun a1=>c a0 a1 h fun r0 h=>k r0 h
theorem s39_eq (J:Qg) (a0:AV) (a1:Int) (h:H) (k:AV→H→Prop):Zk ty (gam J []) Tryd.f39 [a0,(.int .u64 a1)] h k=Qal J  a0 a1 h (fun r0 h=>k r0 h):=by kernel_rfl
def g39:Fun:=w39 s39
theorem Qff:Qp Tryd.prog 39 g39:=(Qz QF QG (Qu (J:=J0) (Qn Qo)) Tryd.func39 (fun args w=>by simp)).imp fun xs h k e0=>by
  obtain ⟨a0,xs0,rfl,e1⟩:=Qf e0
  obtain ⟨a1,xs1,rfl,e2⟩:=Qf e1
  obtain ⟨rfl,e3⟩:=Qj e2
  obtain ⟨a1,rfl,e4⟩:=QI.1 e3
  exact (s39_eq J0  a0 a1 h k).mpr e4
def Qd5 (J:Qg) (c39:AV→Int→H→(AV→H→Prop)→Prop) (a0:AV) (a1:Str) (h:H) (k:AV→H→Prop):Prop :=
fI (Qc .u64 (Int.ofNat a1.len)) fun x1=>
c39 a0 x1 h fun v3 h2=>
apB .str 5 v3 (AV.str a1) h2 fun v4 h5=>
k v4 h5
def s40:AV→Str→H→(AV→H→Prop)→Prop:=Qd5 J0 s39
def w40 (c:AV→Str→H→(AV→H→Prop)→Prop):Fun:=fun xs h k=>arg xs fun a0 xs=>arg xs fun a1 xs=>QV xs <| asS a1 fun a1=>c a0 a1 h fun r0 h=>k r0 h
theorem s40_eq (J:Qg) (c39:AV→Int→H→(AV→H→Prop)→Prop) (a0:AV) (a1:Str) (h:H) (k:AV→H→Prop):Zk ty (gam J [(39,w39 c39)]) Tryd.f40 [a0,(.str a1)] h k=Qd5 J c39 a0 a1 h (fun r0 h=>k r0 h):=by kernel_rfl
def g40:Fun:=w40 s40
theorem g40_ok:Qp Tryd.prog 40 g40:=(Qz QF QG (Qu (J:=J0) (Qb Qff (Qn Qo))) Tryd.func40 (fun args w=>by simp)).imp fun xs h k e0=>by
  obtain ⟨a0,xs0,rfl,e1⟩:=Qf e0
  obtain ⟨a1,xs1,rfl,e2⟩:=Qf e1
  obtain ⟨rfl,e3⟩:=Qj e2
  obtain ⟨a1,rfl,e4⟩:=ZE.1 e3
  exact (s40_eq J0 s39 a0 a1 h k).mpr e4
def Qex (J:Qg) (c23:AV→H→(Int→H→Prop)→Prop) (c39:AV→Int→H→(AV→H→Prop)→Prop) (c40:AV→Str→H→(AV→H→Prop)→Prop) (a0:AV) (h:H) (k:AV→Int→H→Prop):Prop :=
Go.Am.asAgg a0 fun l3=>
Qw (.cells false 40 l3) h fun n1 h2=>
ldI .i64 (AV.ptr n1 0) h2 fun x4=>
fB (ltI x4 (Int.ofNat 1)) fun b5=>
J.jn (fun v6 h7=>
J.jn (fun v9 h10=>
J.jn (fun v13 h14=>
QY (AV.bool b5) (AV.bool true) v13 fun b18=>
br b18 (
k AV.nils (Int.ofNat 2) h14) (
ldV (AV.ptr n1 1) h14 fun v19=>
c23 v19 h14 fun x21 h20=>
fB (Bool.not (eqI x21 (Int.ofNat 0))) fun b22=>
br b22 (
k AV.nils x21 h20) (
ldI .i64 (AV.ptr n1 0) h20 fun x23=>
fI (Qc .u64 x23) fun x24=>
c39 AV.nils x24 h20 fun v26 h25=>
ldV (AV.ptr n1 1) h25 fun v27=>
Zi v27 fun x28=>
fI (Qc .u64 (Int.ofNat x28)) fun x29=>
c39 v26 x29 h25 fun v31 h30=>
ldV (AV.ptr n1 1) h30 fun v32=>
Zi v32 fun x33=>
J.lp (α:=AV × AV × AV × AV × Unit) (fun r37 v34 d35 h36=>
asI .i64 v34.2.2.2.1 fun x38=>
asI .i64 v34.2.2.1 fun x39=>
fB (ltI x38 x39) fun b40=>
br b40 (
J.jd (α:=AV × AV × AV × AV × Unit) (fun v41 d42 h43=>
asI .i64 v41.2.2.2.1 fun x45=>
fI (Qc .i64 (Int.add x45 (Int.ofNat 1))) fun x46=>
r37 (v41.1,v41.2.1,v41.2.2.1,(AV.int .i64 x46),()) d42 h43) fun j44=>
ixK 3 v34.2.1 v34.2.2.2.1 fun p47=>
ldN 3 p47 h36 fun l48=>
Qw (.cells false 47 [(.str ⟨0,0⟩),(.str ⟨0,0⟩),(.bool false)]) h36 fun n49 h50=>
stN 3 (AV.ptr n49 0) l48 h50 fun h51=>
ldB (AV.ptr n49 2) h51 fun b52=>
br b52 (
op' (Wc true 5 [(AV.int .u8 (Int.ofNat 1))]) fun k55=>
Qw k55 h51 fun n53 h54=>
ldS (AV.ptr n49 0) h54 fun s56=>
apB (.slice 5) 5 v34.1 (AV.slice n53 0 1 1 1 true) h54 fun v57 h58=>
ck (Zz (Zq (AV.ptr n49 0) h58) (AV.str s56)) (
c40 v57 s56 h58 fun v60 h59=>
j44 (v60,v34.2.1,v34.2.2.1,v34.2.2.2.1,()) d35 h59)) (
op' (Wc true 5 [(AV.int .u8 (Int.ofNat 0))]) fun k63=>
Qw k63 h51 fun n61 h62=>
ldS (AV.ptr n49 0) h62 fun s64=>
apB (.slice 5) 5 v34.1 (AV.slice n61 0 1 1 1 true) h62 fun v65 h66=>
ck (Zz (Zq (AV.ptr n49 0) h66) (AV.str s64)) (
c40 v65 s64 h66 fun v68 h67=>
ldS (AV.ptr n49 1) h67 fun s69=>
c40 v68 s69 h67 fun v71 h70=>
j44 (v71,v34.2.1,v34.2.2.1,v34.2.2.2.1,()) d35 h70))) (
Qr (gam J [(23,w23 c23),(39,w39 c39),(40,w40 c40)]) d35 h36 fun h72=>
k v34.1 (Int.ofNat 0) h72)) (v31,v32,(AV.int .i64 (Int.ofNat x33)),(AV.int .i64 (Int.ofNat 0)),()) [] h30))) fun j15=>
br b5 (
j15 Qa h10) (
asI .i64 v9 fun x16=>
fB (ltI (Int.ofNat 1073741824) x16) fun b17=>
j15 (AV.bool b17) h10)) fun j11=>
br b5 (
j11 Qa h7) (
ldI .i64 v6 h7 fun x12=>
j11 (AV.int .i64 x12) h7)) fun j8=>
br b5 (
j8 Qa h2) (
j8 (AV.ptr n1 0) h2)
def s24:AV→H→(AV→Int→H→Prop)→Prop:=Qex J0 s23 s39 s40
def w24 (c:AV→H→(AV→Int→H→Prop)→Prop):Fun:=fun xs h k=>arg xs fun a0 xs=>QV xs <| c a0 h fun r0 r1 h=>k (.tuple [r0,(.int .i64 r1)]) h
theorem s24_eq (J:Qg) (c23:AV→H→(Int→H→Prop)→Prop) (c39:AV→Int→H→(AV→H→Prop)→Prop) (c40:AV→Str→H→(AV→H→Prop)→Prop) (a0:AV) (h:H) (k:AV→H→Prop):Zk ty (gam J [(23,w23 c23),(39,w39 c39),(40,w40 c40)]) Tryd.f24 [a0] h k=Qex J c23 c39 c40 a0 h (fun r0 r1 h=>k (.tuple [r0,(.int .i64 r1)]) h):=by kernel_rfl
def g24:Fun:=w24 s24
theorem Qfm:Qp Tryd.prog 24 g24:=(Qz QF QG (Qu (J:=J0) (Qb QaH (Qb Qff (Qb g40_ok (Qn Qo))))) Tryd.func24 (fun args w=>by simp)).imp fun xs h k e0=>by
  obtain ⟨a0,xs0,rfl,e1⟩:=Qf e0
  obtain ⟨rfl,e2⟩:=Qj e1
  exact (s24_eq J0 s23 s39 s40 a0 h k).mpr e2
def Qew (J:Qg) (c41:AV→H→(AV→H→Prop)→Prop) (a0:AV) (a1:AV) (h:H) (k:AV→Int→H→Prop):Prop :=
Zi a1 fun x1=>
fB (ltI (Int.ofNat 1048576) (Int.ofNat x1)) fun b2=>
br b2 (
k AV.nils (Int.ofNat 3) h) (
apB (.slice 5) 5 AV.nils a0 h fun v3 h4=>
fI (Qc .u8 (Int.ofNat x1)) fun x5=>
fI (Uo (Int.ofNat x1) (Vl 8 (IntKind.bits .i64))) fun x6=>
fI (Qc .u8 x6) fun x7=>
fI (Uo (Int.ofNat x1) (Vl 16 (IntKind.bits .i64))) fun x8=>
fI (Qc .u8 x8) fun x9=>
fI (Uo (Int.ofNat x1) (Vl 24 (IntKind.bits .i64))) fun x10=>
fI (Qc .u8 x10) fun x11=>
op' (Wc true 5 [(AV.int .u8 x5),(AV.int .u8 x7),(AV.int .u8 x9),(AV.int .u8 x11)]) fun k14=>
Qw k14 h4 fun n12 h13=>
c41 (AV.slice n12 0 4 4 1 true) h13 fun v16 h15=>
apB (.slice 5) 5 v3 v16 h15 fun v17 h18=>
c41 a1 h18 fun v20 h19=>
apB (.slice 5) 5 v17 v20 h19 fun v21 h22=>
k v21 (Int.ofNat 0) h22)
def s25:AV→AV→H→(AV→Int→H→Prop)→Prop:=Qew J0 s41
def w25 (c:AV→AV→H→(AV→Int→H→Prop)→Prop):Fun:=fun xs h k=>arg xs fun a0 xs=>arg xs fun a1 xs=>QV xs <| c a0 a1 h fun r0 r1 h=>k (.tuple [r0,(.int .i64 r1)]) h
theorem s25_eq (J:Qg) (c41:AV→H→(AV→H→Prop)→Prop) (a0:AV) (a1:AV) (h:H) (k:AV→H→Prop):Zk ty (gam J [(41,w41 c41)]) Tryd.f25 [a0,a1] h k=Qew J c41 a0 a1 h (fun r0 r1 h=>k (.tuple [r0,(.int .i64 r1)]) h):=by kernel_rfl
def g25:Fun:=w25 s25
theorem Qfl:Qp Tryd.prog 25 g25:=(Qz QF QG (Qu (J:=J0) (Qb Qfe (Qn Qo))) Tryd.func25 (fun args w=>by simp)).imp fun xs h k e0=>by
  obtain ⟨a0,xs0,rfl,e1⟩:=Qf e0
  obtain ⟨a1,xs1,rfl,e2⟩:=Qf e1
  obtain ⟨rfl,e3⟩:=Qj e2
  exact (s25_eq J0 s41 a0 a1 h k).mpr e3
def s45G (J:Qg) (c21:AV→AV→H→(Int→H→Prop)→Prop) (c51:AV→H→(AV→H→Prop)→Prop) (a0:AV) (h:H) (k:Int→H→Prop):Prop :=
c21 a0 AV.nils h fun x2 h1=>
fB (Bool.not (eqI x2 (Int.ofNat 0))) fun b3=>
br b3 (
k (Int.ofNat 0) h1) (
Qv a0 (
faK 3 a0 fun p4=>
ldI .i64 p4 h1 fun x5=>
Qw (.cells false 52 [(.nilm),(.nilm)]) h1 fun n6 h7=>
c51 a0 h7 fun v9 h8=>
ck (Zz (Zq p4 h8) (AV.int .i64 x5)) (
Go.Am.asAgg v9 fun l11=>
stN 2 (AV.ptr n6 0) l11 h8 fun h10=>
ck (Zz (Zq p4 h10) (AV.int .i64 x5)) (
ldV (AV.ptr n6 1) h10 fun v12=>
YY v12 h10 fun v13 h14=>
J.lp (α:=AV × AV × AV × Unit) (fun r18 v15 d16 h17=>
VV v15.2.2.1 h17 fun v19 h20=>
asTup v19 fun l21=>
op' (Q3 l21 0) fun v22=>
asB v22 fun b23=>
br b23 (
op' (Y6 v15.2.2.1 h20) fun v24=>
asTup v24 fun l25=>
op' (Q3 l25 1) fun v26=>
asI .i64 v26 fun x27=>
faK 0 v15.1 fun p28=>
ldV p28 h20 fun v29=>
op' (QW ty 3 64 false v29 (AV.int .i64 x27) h20) fun v30=>
Zi v30 fun x31=>
asI .i64 v15.2.1 fun x32=>
fI (Qc .i64 (Int.sub x32 (Int.ofNat x31))) fun x33=>
r18 (v15.1,(AV.int .i64 x33),v15.2.2.1,()) d16 h20) (
Qr (gam J [(21,w21 c21),(51,w51 c51)]) d16 h20 fun h34=>
asI .i64 v15.2.1 fun x35=>
k x35 h34)) ((AV.ptr n6 0),(AV.int .i64 x5),v13,()) [] h14))))
def s45:AV→H→(Int→H→Prop)→Prop:=s45G J0 s21 s51
def w45 (c:AV→H→(Int→H→Prop)→Prop):Fun:=fun xs h k=>arg xs fun a0 xs=>QV xs <| c a0 h fun r0 h=>k (.int .i64 r0) h
theorem s45_eq (J:Qg) (c21:AV→AV→H→(Int→H→Prop)→Prop) (c51:AV→H→(AV→H→Prop)→Prop) (a0:AV) (h:H) (k:AV→H→Prop):Zk ty (gam J [(21,w21 c21),(51,w51 c51)]) Tryd.f45 [a0] h k=s45G J c21 c51 a0 h (fun r0 h=>k (.int .i64 r0) h):=by kernel_rfl
end Go.Proofs.YtbcfpeelkaoljaaDoor
