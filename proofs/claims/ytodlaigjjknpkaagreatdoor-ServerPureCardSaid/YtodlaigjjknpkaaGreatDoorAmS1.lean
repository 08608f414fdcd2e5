import Derived.Test.YtodlaigjjknpkaaGreatDoorAmH65
noncomputable section
namespace Go.Proofs.YtodlaigjjknpkaaGreatDoor
open Go Go.Am
set_option maxRecDepth 100000
set_option linter.all false
def g297 : Fun:=De
theorem Qcn : Qe Tryz.prog 297 g297:=cloneF_ok Tryz.func297 (by kernel_rfl) (by kernel_rfl) (by kernel_rfl) (by kernel_rfl)
def g214 : Fun:=Ql ty (gam J0 [(297,g297)]) Tryz.f214
theorem g214_ok : Qe Tryz.prog 214 g214:=Qf Qi Qj (Qg (J:=J0) (Qa Qcn (Qc Qd))) Tryz.func214 (fun args w=>by simp)
def g215 : Fun:=Ql ty (gam J0 [(297,g297)]) Tryz.f215
theorem g215_ok : Qe Tryz.prog 215 g215:=Qf Qi Qj (Qg (J:=J0) (Qa Qcn (Qc Qd))) Tryz.func215 (fun args w=>by simp)
def s148G (J : Qm) (c99 : AV→AV→H→(H→Prop)→Prop) (c214 : Fun) (c215 : Fun) (a0 : AV) (h : H) (k : AV→H→Prop) : Prop :=
Qs (.cells false 116 [(.nilm),(.nilm)]) h fun n1 h2=>
Za a0 (
faK 0 a0 fun p3=>
faK 0 p3 fun p4=>
ldV p4 h2 fun v5=>
Za a0 (
faK 0 a0 fun p6=>
faK 1 p6 fun p7=>
ldV p7 h2 fun v8=>
Qs (.cells false 116 [(.nilm),(.nilm)]) h2 fun n9 h10=>
c214 [v5] h10 fun v11 h12=>
ck (Zj (Zl p7 h12) v8) (
c215 [v8] h12 fun v13 h14=>
ck (ZQ v11) (ck (ZQ v13) (stN 2 (AV.ptr n9 0) [v11,v13] h14 fun h15=>
Za a0 (
faK 2 a0 fun p16=>
ldV p16 h15 fun v17=>
Q6 v17 fun x18=>
J.lp (α:=AV × AV × AV × AV × AV × Unit) (fun r22 v19 d20 h21=>
asI .i64 v19.2.2.2.2.1 fun x23=>
asI .i64 v19.2.2.2.1 fun x24=>
fB (ltI x23 x24) fun b25=>
br b25 (
ixK 5 v19.2.2.1 v19.2.2.2.2.1 fun p26=>
ldN 5 p26 h21 fun l27=>
Qs (.cells false 169 [(.int .i64 0),(.str ⟨0,0⟩),(.str ⟨0,0⟩),(.int .i64 0),(.nils)]) h21 fun n28 h29=>
stN 5 (AV.ptr n28 0) l27 h29 fun h30=>
ldN 2 v19.2.1 h30 fun l31=>
ldN 5 (AV.ptr n28 0) h30 fun l32=>
c99 (AV.agg l31) (AV.agg l32) h30 fun  h33=>
asI .i64 v19.2.2.2.2.1 fun x34=>
fI (Qu .i64 (Int.add x34 (Int.ofNat 1))) fun x35=>
r22 (v19.1,v19.2.1,v19.2.2.1,v19.2.2.2.1,(AV.int .i64 x35),()) d20 h33) (
ldN 2 v19.2.1 h21 fun l36=>
stN 2 v19.1 l36 h21 fun h37=>
Qr (gam J [(99,w99 c99),(214,c214),(215,c215)]) d20 h37 fun h38=>
ldN 2 v19.1 h38 fun l39=>
k (AV.agg l39) h38)) ((AV.ptr n1 0),(AV.ptr n9 0),v17,(AV.int .i64 (Int.ofNat x18)),(AV.int .i64 (Int.ofNat 0)),()) [] h15))))))
def s148 : AV→H→(AV→H→Prop)→Prop:=s148G J0 s99 g214 g215
def w148 (c : AV→H→(AV→H→Prop)→Prop) : Fun:=fun xs h k=>arg xs fun a0 xs=>QB xs <| c a0 h fun r0 h=>k r0 h
theorem s148_eq (J : Qm) (c99 : AV→AV→H→(H→Prop)→Prop) (c214 : Fun) (c215 : Fun) (a0 : AV) (h : H) (k : AV→H→Prop) : Ql ty (gam J [(99,w99 c99),(214,c214),(215,c215)]) Tryz.f148 [a0] h k = s148G J c99 c214 c215 a0 h (fun r0 h=>k r0 h):=by kernel_rfl
def QfB : Fun:=w148 s148
theorem Jz : Qe Tryz.prog 148 QfB:=(Qf Qi Qj (Qg (J:=J0) (Qa QaH (Qa g214_ok (Qa g215_ok (Qc Qd))))) Tryz.func148 (fun args w=>by simp)).imp fun xs h k e0=>by
  obtain ⟨a0,xs0,rfl,e1⟩:=Qp e0
  obtain ⟨rfl,e2⟩:=Qt e1
  exact (s148_eq J0 s99 g214 g215 a0 h k).mpr e2
def Qdz : AV→H→(AV→H→Prop)→Prop:=fun a0 h k=>∃ K : AV→H→Prop,s148 a0 h K ∧ ∀ r0 h',K r0 h'→k r0 h'
theorem up148_ok : Qe Tryz.prog 148 (w148 Qdz):=Jz.up fun xs h k e0=>by
  obtain ⟨a0,xs0,rfl,e1⟩:=Qp e0
  obtain ⟨rfl,e2⟩:=Qt e1
  obtain ⟨K,q1,q2⟩:=e2
  refine ⟨fun r h'=>∃ r0,r = r0 ∧ K r0 h',?_,?_⟩
  · have hK : (fun r0 h' => ∃ r0', (r0 : AV) = r0' ∧ K r0' h') = K := by funext r0 h'; apply propext; simp
    exact (congrArg (s148 a0 h) hK).mpr q1
  · rintro r h' ⟨r0,rfl,q3⟩; exact q2 _ _ q3
def g247 : Fun:=Ql ty (gam J0 []) Tryz.f247
theorem g247_ok : Qe Tryz.prog 247 g247:=Qf Qi Qj (Qg (J:=J0) (Qc Qd)) Tryz.func247 (fun args w=>by simp)
def s173G (J : Qm) (c247 : Fun) (a0 : AV) (a1 : AV) (h : H) (k : Int→H→Prop) : Prop :=
Jr 0 a0 fun b1=>
J.jn (fun v2 h3=>
J.jn (fun v5 h6=>
J.jn (fun v8 h9=>
J.jn (fun v12 h13=>
J.jn (fun v16 h17=>
Qo (AV.bool b1) (AV.bool true) v16 fun b21=>
br b21 (
k (Int.ofNat 1) h17) (
Za a0 (
faK 5 a0 fun p22=>
ldB p22 h17 fun b23=>
br b23 (
k (Int.ofNat 7) h17) (
Q6 a1 fun x24=>
J.lp (α:=AV × AV × AV × Unit) (fun r28 v25 d26 h27=>
asI .i64 v25.2.2.1 fun x29=>
asI .i64 v25.2.1 fun x30=>
fB (ltI x29 x30) fun b31=>
br b31 (
ixK 1 v25.1 v25.2.2.1 fun p32=>
ldS p32 h27 fun s33=>
c247 [(AV.str s33)] h27 fun v34 h35=>
asB v34 fun b36=>
fB (Bool.not b36) fun b37=>
br b37 (
Qr (gam J [(247,c247)]) d26 h35 fun h38=>
k (Int.ofNat 2) h38) (
asI .i64 v25.2.2.1 fun x39=>
fI (Qu .i64 (Int.add x39 (Int.ofNat 1))) fun x40=>
r28 (v25.1,v25.2.1,(AV.int .i64 x40),()) d26 h35)) (
Qr (gam J [(247,c247)]) d26 h27 fun h41=>
k (Int.ofNat 0) h41)) (a1,(AV.int .i64 (Int.ofNat x24)),(AV.int .i64 (Int.ofNat 0)),()) [] h17)))) fun j18=>
br b1 (
j18 Qb h13) (
asB v12 fun b19=>
fB (Bool.not b19) fun b20=>
j18 (AV.bool b20) h13)) fun j14=>
br b1 (
j14 Qb h9) (
ldB v8 h9 fun b15=>
j14 (AV.bool b15) h9)) fun j10=>
br b1 (
j10 Qb h6) (
faK 9 v5 fun p11=>
j10 p11 h6)) fun j7=>
br b1 (
j7 Qb h3) (
Za v2 (
j7 v2 h3))) fun j4=>
br b1 (
j4 Qb h) (
j4 a0 h)
def s173 : AV→AV→H→(Int→H→Prop)→Prop:=s173G J0 g247
def w173 (c : AV→AV→H→(Int→H→Prop)→Prop) : Fun:=fun xs h k=>arg xs fun a0 xs=>arg xs fun a1 xs=>QB xs <| c a0 a1 h fun r0 h=>k (.int .i64 r0) h
theorem s173_eq (J : Qm) (c247 : Fun) (a0 : AV) (a1 : AV) (h : H) (k : AV→H→Prop) : Ql ty (gam J [(247,c247)]) Tryz.f173 [a0,a1] h k = s173G J c247 a0 a1 h (fun r0 h=>k (.int .i64 r0) h):=by kernel_rfl
def QaO : Fun:=w173 s173
theorem VK : Qe Tryz.prog 173 QaO:=(Qf Qi Qj (Qg (J:=J0) (Qa g247_ok (Qc Qd))) Tryz.func173 (fun args w=>by simp)).imp fun xs h k e0=>by
  obtain ⟨a0,xs0,rfl,e1⟩:=Qp e0
  obtain ⟨a1,xs1,rfl,e2⟩:=Qp e1
  obtain ⟨rfl,e3⟩:=Qt e2
  exact (s173_eq J0 g247 a0 a1 h k).mpr e3
def Qdy : AV→AV→H→(Int→H→Prop)→Prop:=fun a0 a1 h k=>∃ K : Int→H→Prop,s173 a0 a1 h K ∧ ∀ r0 h',K r0 h'→k r0 h'
theorem up173_ok : Qe Tryz.prog 173 (w173 Qdy):=VK.up fun xs h k e0=>by
  obtain ⟨a0,xs0,rfl,e1⟩:=Qp e0
  obtain ⟨a1,xs1,rfl,e2⟩:=Qp e1
  obtain ⟨rfl,e3⟩:=Qt e2
  obtain ⟨K,q1,q2⟩:=e3
  refine ⟨fun r h'=>∃ r0,r = (.int .i64 r0) ∧ K r0 h',?_,?_⟩
  · have hK : (fun r0 h' => ∃ r0', ((.int .i64 r0) : AV) = (.int .i64 r0') ∧ K r0' h') = K := by funext r0 h'; apply propext; simp
    exact (congrArg (s173 a0 a1 h) hK).mpr q1
  · rintro r h' ⟨r0,rfl,q3⟩; exact q2 _ _ q3
def Qdw : Fun:=Ql ty (gam J0 [(148,QfB),(173,QaO)]) Tryz.f147
theorem JA : Qe Tryz.prog 147 Qdw:=Qf Qi Qj (Qg (J:=J0) (Qa Jz (Qa VK (Qc Qd)))) Tryz.func147 (fun args w=>by simp)
def QaP : Fun:=Ql ty (gam J0 [(146,g146),(147,Qdw),(148,QfB)]) Tryz.f100
theorem UH : Qe Tryz.prog 100 QaP:=Qf Qi Qj (Qg (J:=J0) (Qa Xk (Qa JA (Qa Jz (Qc Qd))))) Tryz.func100 (fun args w=>by simp)
def g388 : Fun:=Ql ty (gam J0 []) Tryz.f388
theorem g388_ok : Qe Tryz.prog 388 g388:=Qf Qi Qj (Qg (J:=J0) (Qc Qd)) Tryz.func388 (fun args w=>by simp)
def s375G (J : Qm) (a0 : Int) (h : H) (k : Int→H→Prop) : Prop :=
J.jd (α:=AV × AV × Unit) (fun v1 d2 h3=>
J.jd (α:=AV × AV × Unit) (fun v5 d6 h7=>
J.jd (α:=AV × AV × Unit) (fun v9 d10 h11=>
asI .u64 v9.1 fun x13=>
fI (Qu .u8 x13) fun x14=>
NF (AV.str ⟨256,496986003408712215933005303621146343841837811690876167382323004466384420695090407243345123874780946046625255262057845613767806773758184921447759720770971536008171983842311960805720366577116933250839345203839274948261284255908394484732272583221484877694546905335834403051067785895034095251181560891789708940188598129052595634438001880866652824740680664595948164050600812232986714152902334120417949232733424961741260388658846598210939813666227264727603044226856020347194099943897342244906131705541414413428559898943151040826816076322978570758226444464494629814583418847495712557856038296917933182380796641777551368⟩) (AV.int .u8 x14) fun x15=>
fI (Qu .i64 x15) fun x16=>
asI .i64 v9.2.1 fun x17=>
fI (Qu .i64 (Int.add x17 x16)) fun x18=>
Qr (gam J []) d10 h11 fun h19=>
k x18 h19) fun j12=>
asI .u64 v5.1 fun x20=>
fB (Bool.not (ltI x20 (Int.ofNat 256))) fun b21=>
br b21 (
asI .u64 v5.1 fun x22=>
fI (Dz x22 (Gr 8 (IntKind.bits .u64))) fun x23=>
asI .i64 v5.2.1 fun x24=>
fI (Qu .i64 (Int.add x24 (Int.ofNat 8))) fun x25=>
j12 ((AV.int .u64 x23),(AV.int .i64 x25),()) d6 h7) (
j12 (v5.1,v5.2.1,()) d6 h7)) fun j8=>
asI .u64 v1.1 fun x26=>
fB (Bool.not (ltI x26 (Int.ofNat 65536))) fun b27=>
br b27 (
asI .u64 v1.1 fun x28=>
fI (Dz x28 (Gr 16 (IntKind.bits .u64))) fun x29=>
asI .i64 v1.2.1 fun x30=>
fI (Qu .i64 (Int.add x30 (Int.ofNat 16))) fun x31=>
j8 ((AV.int .u64 x29),(AV.int .i64 x31),()) d2 h3) (
j8 (v1.1,v1.2.1,()) d2 h3)) fun j4=>
fB (Bool.not (ltI a0 (Int.ofNat 4294967296))) fun b32=>
br b32 (
fI (Dz a0 (Gr 32 (IntKind.bits .u64))) fun x33=>
j4 ((AV.int .u64 x33),(AV.int .i64 (Int.ofNat 32)),()) [] h) (
j4 ((AV.int .u64 a0),(AV.int .i64 (Int.ofNat 0)),()) [] h)
def s375 : Int→H→(Int→H→Prop)→Prop:=s375G J0
def w375 (c : Int→H→(Int→H→Prop)→Prop) : Fun:=fun xs h k=>arg xs fun a0 xs=>QB xs <| asI .u64 a0 fun a0=>c a0 h fun r0 h=>k (.int .i64 r0) h
theorem s375_eq (J : Qm) (a0 : Int) (h : H) (k : AV→H→Prop) : Ql ty (gam J []) Tryz.f375 [(.int .u64 a0)] h k = s375G J  a0 h (fun r0 h=>k (.int .i64 r0) h):=by kernel_rfl
def g375 : Fun:=w375 s375
theorem Qcd : Qe Tryz.prog 375 g375:=(Qf Qi Qj (Qg (J:=J0) (Qc Qd)) Tryz.func375 (fun args w=>by simp)).imp fun xs h k e0=>by
  obtain ⟨a0,xs0,rfl,e1⟩:=Qp e0
  obtain ⟨rfl,e2⟩:=Qt e1
  obtain ⟨a0,rfl,e3⟩:=QD.1 e2
  exact (s375_eq J0  a0 h k).mpr e3
def g409 : Fun:=Ql ty (gam J0 []) Tryz.f409
theorem g409_ok : Qe Tryz.prog 409 g409:=Qf Qi Qj (Qg (J:=J0) (Qc Qd)) Tryz.func409 (fun args w=>by simp)
def g410 : Fun:=Ql ty (gam J0 []) Tryz.f410
theorem g410_ok : Qe Tryz.prog 410 g410:=Qf Qi Qj (Qg (J:=J0) (Qc Qd)) Tryz.func410 (fun args w=>by simp)
def g389 : Fun:=Ql ty (gam J0 [(375,g375),(409,g409),(410,g410)]) Tryz.f389
theorem g389_ok : Qe Tryz.prog 389 g389:=Qf Qi Qj (Qg (J:=J0) (Qa Qcd (Qa g409_ok (Qa g410_ok (Qc Qd))))) Tryz.func389 (fun args w=>by simp)
def g390 : Fun:=Ql ty (gam J0 []) Tryz.f390
theorem g390_ok : Qe Tryz.prog 390 g390:=Qf Qi Qj (Qg (J:=J0) (Qc Qd)) Tryz.func390 (fun args w=>by simp)
def g362 : Fun:=Ql ty (gam J0 [(388,g388),(389,g389),(390,g390)]) Tryz.f362
theorem g362_ok : Qe Tryz.prog 362 g362:=Qf Qi Qj (Qg (J:=J0) (Qa g388_ok (Qa g389_ok (Qa g390_ok (Qc Qd))))) Tryz.func362 (fun args w=>by simp)
def g311 : Fun:=Ql ty (gam J0 [(362,g362)]) Tryz.f311
theorem g311_ok : Qe Tryz.prog 311 g311:=Qf Qi Qj (Qg (J:=J0) (Qa g362_ok (Qc Qd))) Tryz.func311 (fun args w=>by simp)
def g234 : Fun:=Ql ty (gam J0 [(311,g311)]) Tryz.f234
theorem QcE : Qe Tryz.prog 234 g234:=Qf Qi Qj (Qg (J:=J0) (Qa g311_ok (Qc Qd))) Tryz.func234 (fun args w=>by simp)
def g119 : Fun:=Ql ty (gam J0 []) Tryz.f119
theorem N2 : Qe Tryz.prog 119 g119:=Qf Qi Qj (Qg (J:=J0) (Qc Qd)) Tryz.func119 (fun args w=>by simp)
def g363 : Fun:=Ql ty (gam J0 []) Tryz.f363
theorem g363_ok : Qe Tryz.prog 363 g363:=Qf Qi Qj (Qg (J:=J0) (Qc Qd)) Tryz.func363 (fun args w=>by simp)
def g364 : Fun:=Ql ty (gam J0 []) Tryz.f364
theorem g364_ok : Qe Tryz.prog 364 g364:=Qf Qi Qj (Qg (J:=J0) (Qc Qd)) Tryz.func364 (fun args w=>by simp)
def g312 : Fun:=Ql ty (gam J0 [(363,g363),(364,g364)]) Tryz.f312
theorem g312_ok : Qe Tryz.prog 312 g312:=Qf Qi Qj (Qg (J:=J0) (Qa g363_ok (Qa g364_ok (Qc Qd)))) Tryz.func312 (fun args w=>by simp)
def g323 : Fun:=Ql ty (gam J0 []) Tryz.f323
theorem Qcj : Qe Tryz.prog 323 g323:=Qf Qi Qj (Qg (J:=J0) (Qc Qd)) Tryz.func323 (fun args w=>by simp)
def g313 : Fun:=Ql ty (gam J0 [(323,g323)]) Tryz.f313
theorem g313_ok : Qe Tryz.prog 313 g313:=Qf Qi Qj (Qg (J:=J0) (Qa Qcj (Qc Qd))) Tryz.func313 (fun args w=>by simp)
end Go.Proofs.YtodlaigjjknpkaaGreatDoor
