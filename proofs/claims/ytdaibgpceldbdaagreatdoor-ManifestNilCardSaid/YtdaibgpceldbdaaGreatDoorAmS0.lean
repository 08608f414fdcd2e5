/- Functions as they are reckoned. MADE BY PROGRAM (wip/tools/shal.py). -/
import Derived.Test.YtdaibgpceldbdaaGreatDoorAmTys
namespace Go.Proofs.YtdaibgpceldbdaaGreatDoor
open Go Go.Am
set_option maxRecDepth 100000
set_option linter.all false
/-- stagepost/vfs.New -/
noncomputable def s5G (J : Joins) (a0 : Int) (h : H) (k : AV → Int → H → Prop) : Prop :=
fB (ltI a0 (Int.ofNat 0)) fun b1 =>
J.jn (fun v2 h3 =>
J.jn (fun v5 h6 =>
pickB (AV.bool b1) (AV.bool true) v5 fun b10 =>
br b10 (
k AV.nilp (Int.ofNat 2) h6) (
pushK (.smap []) h6 fun n11 h12 =>
pushK (.smap []) h12 fun n13 h14 =>
ck (Nat.beq (List.length [(AV.map n11), (AV.map n13)]) 2) (op' (lputAt 0 [(AV.map n11), (AV.map n13)] [(.nilm), (.nilm), (.nils), (.int .i64 0), (.int .i64 0), (.bool false), (.bool false), (.int .i64 0), (.int .i64 0), (.bool false)]) fun l15 =>
op' (lputAt 3 [(AV.int .i64 a0)] l15) fun l16 =>
op' (lputAt 9 [(AV.bool true)] l16) fun l17 =>
pushK (.cells false 58 l17) h14 fun n18 h19 =>
k (AV.ptr n18 0) (Int.ofNat 0) h19))) fun j7 =>
br b1 (
j7 skipV h3) (
asI .i64 v2 fun x8 =>
fB (ltI (Int.ofNat 1073741824) x8) fun b9 =>
j7 (AV.bool b9) h3)) fun j4 =>
br b1 (
j4 skipV h) (
j4 (AV.int .i64 a0) h)
noncomputable def s5 : Int → H → (AV → Int → H → Prop) → Prop := s5G J0 
noncomputable def w5 (c : Int → H → (AV → Int → H → Prop) → Prop) : Fun := fun xs h k => arg xs fun a0 xs => noArg xs <| asI .i64 a0 fun a0 => c a0 h fun r0 r1 h => k (.tuple [r0, (.int .i64 r1)]) h
theorem s5_eq (J : Joins) (a0 : Int) (h : H) (k : AV → H → Prop) : denF ty (gam J []) Tryz.f5 [(.int .i64 a0)] h k = s5G J  a0 h (fun r0 r1 h => k (.tuple [r0, (.int .i64 r1)]) h) := by kernel_rfl
noncomputable def g5 : Fun := w5 s5
theorem g5_ok : FunOk Tryz.prog 5 g5 := (fun_ok ty_ok mixed (gam_ok (J := J0) (tab_nil fls_fun)) Tryz.func5 (fun args w => by simp)).imp fun xs h k e0 => by
  obtain ⟨a0, xs0, rfl, e1⟩ := arg_imp e0
  obtain ⟨rfl, e2⟩ := noArg_imp e1
  obtain ⟨a0, rfl, e3⟩ := asI_iff.1 e2
  exact (s5_eq J0  a0 h k).mpr e3
/-- internal/strconv.small -/
noncomputable def s136G (J : Joins) (a0 : Int) (h : H) (k : Str → H → Prop) : Prop :=
fB (ltI a0 (Int.ofNat 10)) fun b1 =>
br b1 (
fI (wrapF .i64 (Int.add a0 (Int.ofNat 1))) fun x2 =>
subK (AV.str ⟨36, 93621433862240650313326231306435056417042768930449266319129758623240466503934737414522⟩) (some (AV.int .i64 a0)) (some (AV.int .i64 x2)) fun s3 =>
k s3 h) (
fI (wrapF .i64 (Int.mul a0 (Int.ofNat 2))) fun x4 =>
fI (wrapF .i64 (Int.mul a0 (Int.ofNat 2))) fun x5 =>
fI (wrapF .i64 (Int.add x5 (Int.ofNat 2))) fun x6 =>
subK (AV.str ⟨200, 8369396053099643259884660439900312228746471110943504458504829912206407100469475510520505676855750014530596077689858408204562721349408824591789441711103775826291439126061900675989976254244761425382494394669896706626295868329681710377411642562040512013377776180902291979747008038411282346274188424097310996521951660972735479027990947060043115083917949168200323041593656569302669535377774123378085539195783572932112166539323561441937920580889744256865042652178519653545620815178381625⟩) (some (AV.int .i64 x4)) (some (AV.int .i64 x6)) fun s7 =>
k s7 h)
noncomputable def s136 : Int → H → (Str → H → Prop) → Prop := s136G J0 
noncomputable def w136 (c : Int → H → (Str → H → Prop) → Prop) : Fun := fun xs h k => arg xs fun a0 xs => noArg xs <| asI .i64 a0 fun a0 => c a0 h fun r0 h => k (.str r0) h
theorem s136_eq (J : Joins) (a0 : Int) (h : H) (k : AV → H → Prop) : denF ty (gam J []) Tryz.f136 [(.int .i64 a0)] h k = s136G J  a0 h (fun r0 h => k (.str r0) h) := by kernel_rfl
noncomputable def g136 : Fun := w136 s136
theorem g136_ok : FunOk Tryz.prog 136 g136 := (fun_ok ty_ok mixed (gam_ok (J := J0) (tab_nil fls_fun)) Tryz.func136 (fun args w => by simp)).imp fun xs h k e0 => by
  obtain ⟨a0, xs0, rfl, e1⟩ := arg_imp e0
  obtain ⟨rfl, e2⟩ := noArg_imp e1
  obtain ⟨a0, rfl, e3⟩ := asI_iff.1 e2
  exact (s136_eq J0  a0 h k).mpr e3
/-- math/bits.Len64 -/
noncomputable def s129G (J : Joins) (a0 : Int) (h : H) (k : Int → H → Prop) : Prop :=
J.jd (α := AV × AV × Unit) (fun v1 d2 h3 =>
J.jd (α := AV × AV × Unit) (fun v5 d6 h7 =>
J.jd (α := AV × AV × Unit) (fun v9 d10 h11 =>
asI .u64 v9.1 fun x13 =>
fI (wrapF .u8 x13) fun x14 =>
ixsK (AV.str ⟨256, 496986003408712215933005303621146343841837811690876167382323004466384420695090407243345123874780946046625255262057845613767806773758184921447759720770971536008171983842311960805720366577116933250839345203839274948261284255908394484732272583221484877694546905335834403051067785895034095251181560891789708940188598129052595634438001880866652824740680664595948164050600812232986714152902334120417949232733424961741260388658846598210939813666227264727603044226856020347194099943897342244906131705541414413428559898943151040826816076322978570758226444464494629814583418847495712557856038296917933182380796641777551368⟩) (AV.int .u8 x14) fun x15 =>
fI (wrapF .i64 x15) fun x16 =>
asI .i64 v9.2.1 fun x17 =>
fI (wrapF .i64 (Int.add x17 x16)) fun x18 =>
leaveK (gam J []) d10 h11 fun h19 =>
k x18 h19) fun j12 =>
asI .u64 v5.1 fun x20 =>
fB (Bool.not (ltI x20 (Int.ofNat 256))) fun b21 =>
br b21 (
asI .u64 v5.1 fun x22 =>
fI (shrF x22 (nmin 8 (IntKind.bits .u64))) fun x23 =>
asI .i64 v5.2.1 fun x24 =>
fI (wrapF .i64 (Int.add x24 (Int.ofNat 8))) fun x25 =>
j12 ((AV.int .u64 x23), (AV.int .i64 x25), ()) d6 h7) (
j12 (v5.1, v5.2.1, ()) d6 h7)) fun j8 =>
asI .u64 v1.1 fun x26 =>
fB (Bool.not (ltI x26 (Int.ofNat 65536))) fun b27 =>
br b27 (
asI .u64 v1.1 fun x28 =>
fI (shrF x28 (nmin 16 (IntKind.bits .u64))) fun x29 =>
asI .i64 v1.2.1 fun x30 =>
fI (wrapF .i64 (Int.add x30 (Int.ofNat 16))) fun x31 =>
j8 ((AV.int .u64 x29), (AV.int .i64 x31), ()) d2 h3) (
j8 (v1.1, v1.2.1, ()) d2 h3)) fun j4 =>
fB (Bool.not (ltI a0 (Int.ofNat 4294967296))) fun b32 =>
br b32 (
fI (shrF a0 (nmin 32 (IntKind.bits .u64))) fun x33 =>
j4 ((AV.int .u64 x33), (AV.int .i64 (Int.ofNat 32)), ()) [] h) (
j4 ((AV.int .u64 a0), (AV.int .i64 (Int.ofNat 0)), ()) [] h)
noncomputable def s129 : Int → H → (Int → H → Prop) → Prop := s129G J0 
noncomputable def w129 (c : Int → H → (Int → H → Prop) → Prop) : Fun := fun xs h k => arg xs fun a0 xs => noArg xs <| asI .u64 a0 fun a0 => c a0 h fun r0 h => k (.int .i64 r0) h
theorem s129_eq (J : Joins) (a0 : Int) (h : H) (k : AV → H → Prop) : denF ty (gam J []) Tryz.f129 [(.int .u64 a0)] h k = s129G J  a0 h (fun r0 h => k (.int .i64 r0) h) := by kernel_rfl
noncomputable def g129 : Fun := w129 s129
theorem g129_ok : FunOk Tryz.prog 129 g129 := (fun_ok ty_ok mixed (gam_ok (J := J0) (tab_nil fls_fun)) Tryz.func129 (fun args w => by simp)).imp fun xs h k e0 => by
  obtain ⟨a0, xs0, rfl, e1⟩ := arg_imp e0
  obtain ⟨rfl, e2⟩ := noArg_imp e1
  obtain ⟨a0, rfl, e3⟩ := asI_iff.1 e2
  exact (s129_eq J0  a0 h k).mpr e3
/-- internal/strconv.log10Pow2 -/
noncomputable def s151G (J : Joins) (a0 : Int) (h : H) (k : Int → H → Prop) : Prop :=
fI (wrapF .i64 (Int.mul a0 (Int.ofNat 78913))) fun x1 =>
fI (shrF x1 (nmin 18 (IntKind.bits .i64))) fun x2 =>
k x2 h
noncomputable def s151 : Int → H → (Int → H → Prop) → Prop := s151G J0 
noncomputable def w151 (c : Int → H → (Int → H → Prop) → Prop) : Fun := fun xs h k => arg xs fun a0 xs => noArg xs <| asI .i64 a0 fun a0 => c a0 h fun r0 h => k (.int .i64 r0) h
theorem s151_eq (J : Joins) (a0 : Int) (h : H) (k : AV → H → Prop) : denF ty (gam J []) Tryz.f151 [(.int .i64 a0)] h k = s151G J  a0 h (fun r0 h => k (.int .i64 r0) h) := by kernel_rfl
noncomputable def g151 : Fun := w151 s151
theorem g151_ok : FunOk Tryz.prog 151 g151 := (fun_ok ty_ok mixed (gam_ok (J := J0) (tab_nil fls_fun)) Tryz.func151 (fun args w => by simp)).imp fun xs h k e0 => by
  obtain ⟨a0, xs0, rfl, e1⟩ := arg_imp e0
  obtain ⟨rfl, e2⟩ := noArg_imp e1
  obtain ⟨a0, rfl, e3⟩ := asI_iff.1 e2
  exact (s151_eq J0  a0 h k).mpr e3
/-- internal/strconv.bool2[int] -/
noncomputable def s152G (J : Joins) (a0 : Bool) (h : H) (k : Int → H → Prop) : Prop :=
br a0 (
k (Int.ofNat 1) h) (
k (Int.ofNat 0) h)
noncomputable def s152 : Bool → H → (Int → H → Prop) → Prop := s152G J0 
noncomputable def w152 (c : Bool → H → (Int → H → Prop) → Prop) : Fun := fun xs h k => arg xs fun a0 xs => noArg xs <| asB a0 fun a0 => c a0 h fun r0 h => k (.int .i64 r0) h
theorem s152_eq (J : Joins) (a0 : Bool) (h : H) (k : AV → H → Prop) : denF ty (gam J []) Tryz.f152 [(.bool a0)] h k = s152G J  a0 h (fun r0 h => k (.int .i64 r0) h) := by kernel_rfl
noncomputable def g152 : Fun := w152 s152
theorem g152_ok : FunOk Tryz.prog 152 g152 := (fun_ok ty_ok mixed (gam_ok (J := J0) (tab_nil fls_fun)) Tryz.func152 (fun args w => by simp)).imp fun xs h k e0 => by
  obtain ⟨a0, xs0, rfl, e1⟩ := arg_imp e0
  obtain ⟨rfl, e2⟩ := noArg_imp e1
  obtain ⟨a0, rfl, e3⟩ := asB_iff.1 e2
  exact (s152_eq J0  a0 h k).mpr e3
/-- internal/strconv.numDigits -/
noncomputable def s137G (J : Joins) (c129 : Int → H → (Int → H → Prop) → Prop) (c151 : Int → H → (Int → H → Prop) → Prop) (c152 : Bool → H → (Int → H → Prop) → Prop) (a0 : Int) (h : H) (k : Int → H → Prop) : Prop :=
c129 a0 h fun x2 h1 =>
c151 x2 h1 fun x4 h3 =>
ixaK 20 1 AV.junk (AV.int .i64 x4) fun p5 =>
ldI .u64 p5 h3 fun x6 =>
fB (Bool.not (ltI a0 x6)) fun b7 =>
c152 b7 h3 fun x9 h8 =>
fI (wrapF .i64 (Int.add x4 x9)) fun x10 =>
k x10 h8
noncomputable def s137 : Int → H → (Int → H → Prop) → Prop := s137G J0 s129 s151 s152
noncomputable def w137 (c : Int → H → (Int → H → Prop) → Prop) : Fun := fun xs h k => arg xs fun a0 xs => noArg xs <| asI .u64 a0 fun a0 => c a0 h fun r0 h => k (.int .i64 r0) h
theorem s137_eq (J : Joins) (c129 : Int → H → (Int → H → Prop) → Prop) (c151 : Int → H → (Int → H → Prop) → Prop) (c152 : Bool → H → (Int → H → Prop) → Prop) (a0 : Int) (h : H) (k : AV → H → Prop) : denF ty (gam J [(129, w129 c129), (151, w151 c151), (152, w152 c152)]) Tryz.f137 [(.int .u64 a0)] h k = s137G J c129 c151 c152 a0 h (fun r0 h => k (.int .i64 r0) h) := by kernel_rfl
noncomputable def g137 : Fun := w137 s137
theorem g137_ok : FunOk Tryz.prog 137 g137 := (fun_ok ty_ok mixed (gam_ok (J := J0) (tab_cons g129_ok (tab_cons g151_ok (tab_cons g152_ok (tab_nil fls_fun))))) Tryz.func137 (fun args w => by simp)).imp fun xs h k e0 => by
  obtain ⟨a0, xs0, rfl, e1⟩ := arg_imp e0
  obtain ⟨rfl, e2⟩ := noArg_imp e1
  obtain ⟨a0, rfl, e3⟩ := asI_iff.1 e2
  exact (s137_eq J0 s129 s151 s152 a0 h k).mpr e3
/-- internal/strconv.formatBase10 -/
noncomputable def s138G (J : Joins) (a0 : AV) (a1 : Int) (h : H) (k : H → Prop) : Prop :=
lenK a0 fun x1 =>
J.lp (α := AV × AV × AV × Unit) (fun r5 v2 d3 h4 =>
asI .i64 v2.2.2.1 fun x6 =>
fB (Bool.not (ltI x6 (Int.ofNat 8))) fun b7 =>
br b7 (
asI .u64 v2.2.1 fun x8 =>
ck (Bool.not (eqI (Int.ofNat 100000000) 0)) (fI (Int.tmod x8 (Int.ofNat 100000000)) fun x9 =>
fI (wrapF .u32 x9) fun x10 =>
asI .u64 v2.2.1 fun x11 =>
ck (Bool.not (eqI (Int.ofNat 100000000) 0)) (fI (wrapF .u64 (Int.tdiv x11 (Int.ofNat 100000000))) fun x12 =>
ck (Bool.not (eqI (Int.ofNat 10000) 0)) (fI (wrapF .u32 (Int.tdiv x10 (Int.ofNat 10000))) fun x13 =>
ck (Bool.not (eqI (Int.ofNat 10000) 0)) (fI (Int.tmod x10 (Int.ofNat 10000)) fun x14 =>
ck (Bool.not (eqI (Int.ofNat 100) 0)) (fI (wrapF .u32 (Int.tdiv x14 (Int.ofNat 100))) fun x15 =>
fI (wrapF .u32 (Int.mul x15 (Int.ofNat 2))) fun x16 =>
ck (Bool.not (eqI (Int.ofNat 100) 0)) (fI (Int.tmod x14 (Int.ofNat 100)) fun x17 =>
fI (wrapF .u32 (Int.mul x17 (Int.ofNat 2))) fun x18 =>
ck (Bool.not (eqI (Int.ofNat 100) 0)) (fI (wrapF .u32 (Int.tdiv x13 (Int.ofNat 100))) fun x19 =>
fI (wrapF .u32 (Int.mul x19 (Int.ofNat 2))) fun x20 =>
ck (Bool.not (eqI (Int.ofNat 100) 0)) (fI (Int.tmod x13 (Int.ofNat 100)) fun x21 =>
fI (wrapF .u32 (Int.mul x21 (Int.ofNat 2))) fun x22 =>
asI .i64 v2.2.2.1 fun x23 =>
fI (wrapF .i64 (Int.sub x23 (Int.ofNat 1))) fun x24 =>
asI .i64 v2.2.2.1 fun x25 =>
fI (wrapF .i64 (Int.sub x25 (Int.ofNat 2))) fun x26 =>
fI (wrapF .u32 (Int.add x18 (Int.ofNat 1))) fun x27 =>
ixsK (AV.str ⟨200, 8369396053099643259884660439900312228746471110943504458504829912206407100469475510520505676855750014530596077689858408204562721349408824591789441711103775826291439126061900675989976254244761425382494394669896706626295868329681710377411642562040512013377776180902291979747008038411282346274188424097310996521951660972735479027990947060043115083917949168200323041593656569302669535377774123378085539195783572932112166539323561441937920580889744256865042652178519653545620815178381625⟩) (AV.int .u32 x27) fun x28 =>
ixsK (AV.str ⟨200, 8369396053099643259884660439900312228746471110943504458504829912206407100469475510520505676855750014530596077689858408204562721349408824591789441711103775826291439126061900675989976254244761425382494394669896706626295868329681710377411642562040512013377776180902291979747008038411282346274188424097310996521951660972735479027990947060043115083917949168200323041593656569302669535377774123378085539195783572932112166539323561441937920580889744256865042652178519653545620815178381625⟩) (AV.int .u32 x18) fun x29 =>
ixK 1 v2.1 (AV.int .i64 x24) fun p30 =>
stV p30 (AV.int .u8 x28) h4 fun h31 =>
ixK 1 v2.1 (AV.int .i64 x26) fun p32 =>
stV p32 (AV.int .u8 x29) h31 fun h33 =>
asI .i64 v2.2.2.1 fun x34 =>
fI (wrapF .i64 (Int.sub x34 (Int.ofNat 3))) fun x35 =>
asI .i64 v2.2.2.1 fun x36 =>
fI (wrapF .i64 (Int.sub x36 (Int.ofNat 4))) fun x37 =>
fI (wrapF .u32 (Int.add x16 (Int.ofNat 1))) fun x38 =>
ixsK (AV.str ⟨200, 8369396053099643259884660439900312228746471110943504458504829912206407100469475510520505676855750014530596077689858408204562721349408824591789441711103775826291439126061900675989976254244761425382494394669896706626295868329681710377411642562040512013377776180902291979747008038411282346274188424097310996521951660972735479027990947060043115083917949168200323041593656569302669535377774123378085539195783572932112166539323561441937920580889744256865042652178519653545620815178381625⟩) (AV.int .u32 x38) fun x39 =>
ixsK (AV.str ⟨200, 8369396053099643259884660439900312228746471110943504458504829912206407100469475510520505676855750014530596077689858408204562721349408824591789441711103775826291439126061900675989976254244761425382494394669896706626295868329681710377411642562040512013377776180902291979747008038411282346274188424097310996521951660972735479027990947060043115083917949168200323041593656569302669535377774123378085539195783572932112166539323561441937920580889744256865042652178519653545620815178381625⟩) (AV.int .u32 x16) fun x40 =>
ixK 1 v2.1 (AV.int .i64 x35) fun p41 =>
stV p41 (AV.int .u8 x39) h33 fun h42 =>
ixK 1 v2.1 (AV.int .i64 x37) fun p43 =>
stV p43 (AV.int .u8 x40) h42 fun h44 =>
asI .i64 v2.2.2.1 fun x45 =>
fI (wrapF .i64 (Int.sub x45 (Int.ofNat 5))) fun x46 =>
asI .i64 v2.2.2.1 fun x47 =>
fI (wrapF .i64 (Int.sub x47 (Int.ofNat 6))) fun x48 =>
fI (wrapF .u32 (Int.add x22 (Int.ofNat 1))) fun x49 =>
ixsK (AV.str ⟨200, 8369396053099643259884660439900312228746471110943504458504829912206407100469475510520505676855750014530596077689858408204562721349408824591789441711103775826291439126061900675989976254244761425382494394669896706626295868329681710377411642562040512013377776180902291979747008038411282346274188424097310996521951660972735479027990947060043115083917949168200323041593656569302669535377774123378085539195783572932112166539323561441937920580889744256865042652178519653545620815178381625⟩) (AV.int .u32 x49) fun x50 =>
ixsK (AV.str ⟨200, 8369396053099643259884660439900312228746471110943504458504829912206407100469475510520505676855750014530596077689858408204562721349408824591789441711103775826291439126061900675989976254244761425382494394669896706626295868329681710377411642562040512013377776180902291979747008038411282346274188424097310996521951660972735479027990947060043115083917949168200323041593656569302669535377774123378085539195783572932112166539323561441937920580889744256865042652178519653545620815178381625⟩) (AV.int .u32 x22) fun x51 =>
ixK 1 v2.1 (AV.int .i64 x46) fun p52 =>
stV p52 (AV.int .u8 x50) h44 fun h53 =>
ixK 1 v2.1 (AV.int .i64 x48) fun p54 =>
stV p54 (AV.int .u8 x51) h53 fun h55 =>
asI .i64 v2.2.2.1 fun x56 =>
fI (wrapF .i64 (Int.sub x56 (Int.ofNat 7))) fun x57 =>
asI .i64 v2.2.2.1 fun x58 =>
fI (wrapF .i64 (Int.sub x58 (Int.ofNat 8))) fun x59 =>
fI (wrapF .u32 (Int.add x20 (Int.ofNat 1))) fun x60 =>
ixsK (AV.str ⟨200, 8369396053099643259884660439900312228746471110943504458504829912206407100469475510520505676855750014530596077689858408204562721349408824591789441711103775826291439126061900675989976254244761425382494394669896706626295868329681710377411642562040512013377776180902291979747008038411282346274188424097310996521951660972735479027990947060043115083917949168200323041593656569302669535377774123378085539195783572932112166539323561441937920580889744256865042652178519653545620815178381625⟩) (AV.int .u32 x60) fun x61 =>
ixsK (AV.str ⟨200, 8369396053099643259884660439900312228746471110943504458504829912206407100469475510520505676855750014530596077689858408204562721349408824591789441711103775826291439126061900675989976254244761425382494394669896706626295868329681710377411642562040512013377776180902291979747008038411282346274188424097310996521951660972735479027990947060043115083917949168200323041593656569302669535377774123378085539195783572932112166539323561441937920580889744256865042652178519653545620815178381625⟩) (AV.int .u32 x20) fun x62 =>
ixK 1 v2.1 (AV.int .i64 x57) fun p63 =>
stV p63 (AV.int .u8 x61) h55 fun h64 =>
ixK 1 v2.1 (AV.int .i64 x59) fun p65 =>
stV p65 (AV.int .u8 x62) h64 fun h66 =>
asI .i64 v2.2.2.1 fun x67 =>
fI (wrapF .i64 (Int.sub x67 (Int.ofNat 8))) fun x68 =>
r5 (v2.1, (AV.int .u64 x12), (AV.int .i64 x68), ()) d3 h66))))))))) (
asI .u64 v2.2.1 fun x69 =>
fI (wrapF .u32 x69) fun x70 =>
J.jd (α := AV × AV × AV × Unit) (fun v71 d72 h73 =>
J.jd (α := AV × AV × AV × Unit) (fun v75 d76 h77 =>
asI .i64 v75.2.1 fun x79 =>
fB (ltI (Int.ofNat 0) x79) fun b80 =>
br b80 (
asI .u32 v75.2.2.1 fun x81 =>
fI (wrapF .u32 (Int.add (Int.ofNat 48) x81)) fun x82 =>
fI (wrapF .u8 x82) fun x83 =>
ixK 1 v75.1 (AV.int .i64 (Int.ofNat 0)) fun p84 =>
stV p84 (AV.int .u8 x83) h77 fun h85 =>
leaveK (gam J []) d76 h85 fun h86 =>
k  h86) (
leaveK (gam J []) d76 h77 fun h87 =>
k  h87)) fun j78 =>
asI .i64 v71.2.1 fun x88 =>
fB (Bool.not (ltI x88 (Int.ofNat 2))) fun b89 =>
br b89 (
asI .u32 v71.2.2.1 fun x90 =>
ck (Bool.not (eqI (Int.ofNat 100) 0)) (fI (Int.tmod x90 (Int.ofNat 100)) fun x91 =>
fI (wrapF .u32 (Int.mul x91 (Int.ofNat 2))) fun x92 =>
asI .u32 v71.2.2.1 fun x93 =>
ck (Bool.not (eqI (Int.ofNat 100) 0)) (fI (wrapF .u32 (Int.tdiv x93 (Int.ofNat 100))) fun x94 =>
asI .i64 v71.2.1 fun x95 =>
fI (wrapF .i64 (Int.sub x95 (Int.ofNat 1))) fun x96 =>
asI .i64 v71.2.1 fun x97 =>
fI (wrapF .i64 (Int.sub x97 (Int.ofNat 2))) fun x98 =>
fI (wrapF .u32 (Int.add x92 (Int.ofNat 1))) fun x99 =>
ixsK (AV.str ⟨200, 8369396053099643259884660439900312228746471110943504458504829912206407100469475510520505676855750014530596077689858408204562721349408824591789441711103775826291439126061900675989976254244761425382494394669896706626295868329681710377411642562040512013377776180902291979747008038411282346274188424097310996521951660972735479027990947060043115083917949168200323041593656569302669535377774123378085539195783572932112166539323561441937920580889744256865042652178519653545620815178381625⟩) (AV.int .u32 x99) fun x100 =>
ixsK (AV.str ⟨200, 8369396053099643259884660439900312228746471110943504458504829912206407100469475510520505676855750014530596077689858408204562721349408824591789441711103775826291439126061900675989976254244761425382494394669896706626295868329681710377411642562040512013377776180902291979747008038411282346274188424097310996521951660972735479027990947060043115083917949168200323041593656569302669535377774123378085539195783572932112166539323561441937920580889744256865042652178519653545620815178381625⟩) (AV.int .u32 x92) fun x101 =>
ixK 1 v71.1 (AV.int .i64 x96) fun p102 =>
stV p102 (AV.int .u8 x100) h73 fun h103 =>
ixK 1 v71.1 (AV.int .i64 x98) fun p104 =>
stV p104 (AV.int .u8 x101) h103 fun h105 =>
asI .i64 v71.2.1 fun x106 =>
fI (wrapF .i64 (Int.sub x106 (Int.ofNat 2))) fun x107 =>
j78 (v71.1, (AV.int .i64 x107), (AV.int .u32 x94), ()) d72 h105))) (
j78 (v71.1, v71.2.1, v71.2.2.1, ()) d72 h73)) fun j74 =>
asI .i64 v2.2.2.1 fun x108 =>
fB (Bool.not (ltI x108 (Int.ofNat 4))) fun b109 =>
br b109 (
ck (Bool.not (eqI (Int.ofNat 10000) 0)) (fI (Int.tmod x70 (Int.ofNat 10000)) fun x110 =>
ck (Bool.not (eqI (Int.ofNat 10000) 0)) (fI (wrapF .u32 (Int.tdiv x70 (Int.ofNat 10000))) fun x111 =>
ck (Bool.not (eqI (Int.ofNat 100) 0)) (fI (wrapF .u32 (Int.tdiv x110 (Int.ofNat 100))) fun x112 =>
fI (wrapF .u32 (Int.mul x112 (Int.ofNat 2))) fun x113 =>
ck (Bool.not (eqI (Int.ofNat 100) 0)) (fI (Int.tmod x110 (Int.ofNat 100)) fun x114 =>
fI (wrapF .u32 (Int.mul x114 (Int.ofNat 2))) fun x115 =>
asI .i64 v2.2.2.1 fun x116 =>
fI (wrapF .i64 (Int.sub x116 (Int.ofNat 1))) fun x117 =>
asI .i64 v2.2.2.1 fun x118 =>
fI (wrapF .i64 (Int.sub x118 (Int.ofNat 2))) fun x119 =>
fI (wrapF .u32 (Int.add x115 (Int.ofNat 1))) fun x120 =>
ixsK (AV.str ⟨200, 8369396053099643259884660439900312228746471110943504458504829912206407100469475510520505676855750014530596077689858408204562721349408824591789441711103775826291439126061900675989976254244761425382494394669896706626295868329681710377411642562040512013377776180902291979747008038411282346274188424097310996521951660972735479027990947060043115083917949168200323041593656569302669535377774123378085539195783572932112166539323561441937920580889744256865042652178519653545620815178381625⟩) (AV.int .u32 x120) fun x121 =>
ixsK (AV.str ⟨200, 8369396053099643259884660439900312228746471110943504458504829912206407100469475510520505676855750014530596077689858408204562721349408824591789441711103775826291439126061900675989976254244761425382494394669896706626295868329681710377411642562040512013377776180902291979747008038411282346274188424097310996521951660972735479027990947060043115083917949168200323041593656569302669535377774123378085539195783572932112166539323561441937920580889744256865042652178519653545620815178381625⟩) (AV.int .u32 x115) fun x122 =>
ixK 1 v2.1 (AV.int .i64 x117) fun p123 =>
stV p123 (AV.int .u8 x121) h4 fun h124 =>
ixK 1 v2.1 (AV.int .i64 x119) fun p125 =>
stV p125 (AV.int .u8 x122) h124 fun h126 =>
asI .i64 v2.2.2.1 fun x127 =>
fI (wrapF .i64 (Int.sub x127 (Int.ofNat 3))) fun x128 =>
asI .i64 v2.2.2.1 fun x129 =>
fI (wrapF .i64 (Int.sub x129 (Int.ofNat 4))) fun x130 =>
fI (wrapF .u32 (Int.add x113 (Int.ofNat 1))) fun x131 =>
ixsK (AV.str ⟨200, 8369396053099643259884660439900312228746471110943504458504829912206407100469475510520505676855750014530596077689858408204562721349408824591789441711103775826291439126061900675989976254244761425382494394669896706626295868329681710377411642562040512013377776180902291979747008038411282346274188424097310996521951660972735479027990947060043115083917949168200323041593656569302669535377774123378085539195783572932112166539323561441937920580889744256865042652178519653545620815178381625⟩) (AV.int .u32 x131) fun x132 =>
ixsK (AV.str ⟨200, 8369396053099643259884660439900312228746471110943504458504829912206407100469475510520505676855750014530596077689858408204562721349408824591789441711103775826291439126061900675989976254244761425382494394669896706626295868329681710377411642562040512013377776180902291979747008038411282346274188424097310996521951660972735479027990947060043115083917949168200323041593656569302669535377774123378085539195783572932112166539323561441937920580889744256865042652178519653545620815178381625⟩) (AV.int .u32 x113) fun x133 =>
ixK 1 v2.1 (AV.int .i64 x128) fun p134 =>
stV p134 (AV.int .u8 x132) h126 fun h135 =>
ixK 1 v2.1 (AV.int .i64 x130) fun p136 =>
stV p136 (AV.int .u8 x133) h135 fun h137 =>
asI .i64 v2.2.2.1 fun x138 =>
fI (wrapF .i64 (Int.sub x138 (Int.ofNat 4))) fun x139 =>
j74 (v2.1, (AV.int .i64 x139), (AV.int .u32 x111), ()) d3 h137))))) (
j74 (v2.1, v2.2.2.1, (AV.int .u32 x70), ()) d3 h4))) (a0, (AV.int .u64 a1), (AV.int .i64 (Int.ofNat x1)), ()) [] h
noncomputable def s138 : AV → Int → H → (H → Prop) → Prop := s138G J0 
noncomputable def w138 (c : AV → Int → H → (H → Prop) → Prop) : Fun := fun xs h k => arg xs fun a0 xs => arg xs fun a1 xs => noArg xs <| asI .u64 a1 fun a1 => c a0 a1 h fun  h => k (.tuple []) h
theorem s138_eq (J : Joins) (a0 : AV) (a1 : Int) (h : H) (k : AV → H → Prop) : denF ty (gam J []) Tryz.f138 [a0, (.int .u64 a1)] h k = s138G J  a0 a1 h (fun  h => k (.tuple []) h) := by kernel_rfl
noncomputable def g138 : Fun := w138 s138
theorem g138_ok : FunOk Tryz.prog 138 g138 := (fun_ok ty_ok mixed (gam_ok (J := J0) (tab_nil fls_fun)) Tryz.func138 (fun args w => by simp)).imp fun xs h k e0 => by
  obtain ⟨a0, xs0, rfl, e1⟩ := arg_imp e0
  obtain ⟨a1, xs1, rfl, e2⟩ := arg_imp e1
  obtain ⟨rfl, e3⟩ := noArg_imp e2
  obtain ⟨a1, rfl, e4⟩ := asI_iff.1 e3
  exact (s138_eq J0  a0 a1 h k).mpr e4
/-- internal/strconv.FormatInt -/
noncomputable def s111G (J : Joins) (c136 : Int → H → (Str → H → Prop) → Prop) (c137 : Int → H → (Int → H → Prop) → Prop) (c138 : AV → Int → H → (H → Prop) → Prop) (a0 : Int) (a1 : Int) (h : H) (k : Str → H → Prop) : Prop :=
fB (eqI a1 (Int.ofNat 10)) fun b1 =>
br b1 (
fB (Bool.not (ltI a0 (Int.ofNat 0))) fun b2 =>
J.jn (fun v3 h4 =>
J.jn (fun v6 h7 =>
pickB (AV.bool b2) v6 (AV.bool false) fun b11 =>
br b11 (
c136 a0 h7 fun s13 h12 =>
k s13 h12) (
pushK (.cells false 184 [(.int .u8 0), (.int .u8 0), (.int .u8 0), (.int .u8 0), (.int .u8 0), (.int .u8 0), (.int .u8 0), (.int .u8 0), (.int .u8 0), (.int .u8 0), (.int .u8 0), (.int .u8 0), (.int .u8 0), (.int .u8 0), (.int .u8 0), (.int .u8 0), (.int .u8 0), (.int .u8 0), (.int .u8 0), (.int .u8 0), (.int .u8 0), (.int .u8 0), (.int .u8 0), (.int .u8 0)]) h7 fun n14 h15 =>
fI (wrapF .u64 a0) fun x16 =>
J.jd (α := AV × AV × AV × Unit) (fun v17 d18 h19 =>
asI .u64 v17.2.2.1 fun x22 =>
c137 x22 h19 fun x23 h21 =>
fI (wrapF .i64 (Int.add (Int.ofNat 1) x23)) fun x24 =>
False) fun j20 =>
fB (ltI a0 (Int.ofNat 0)) fun b25 =>
br b25 (
op' (aUn .neg (AV.int .u64 x16)) fun v26 =>
asI .u64 v26 fun x27 =>
j20 ((AV.int .i64 a0), (AV.ptr n14 0), (AV.int .u64 x27), ()) [] h15) (
j20 ((AV.int .i64 a0), (AV.ptr n14 0), (AV.int .u64 x16), ()) [] h15))) fun j8 =>
br b2 (
asI .i64 v3 fun x9 =>
fB (ltI x9 (Int.ofNat 100)) fun b10 =>
j8 (AV.bool b10) h4) (
j8 skipV h4)) fun j5 =>
br b2 (
j5 (AV.int .i64 a0) h) (
j5 skipV h)) (
fI (wrapF .u64 a0) fun x28 =>
fB (ltI a0 (Int.ofNat 0)) fun b29 =>
False)
noncomputable def s111 : Int → Int → H → (Str → H → Prop) → Prop := s111G J0 s136 s137 s138
noncomputable def w111 (c : Int → Int → H → (Str → H → Prop) → Prop) : Fun := fun xs h k => arg xs fun a0 xs => arg xs fun a1 xs => noArg xs <| asI .i64 a0 fun a0 => asI .i64 a1 fun a1 => c a0 a1 h fun r0 h => k (.str r0) h
theorem s111_eq (J : Joins) (c136 : Int → H → (Str → H → Prop) → Prop) (c137 : Int → H → (Int → H → Prop) → Prop) (c138 : AV → Int → H → (H → Prop) → Prop) (a0 : Int) (a1 : Int) (h : H) (k : AV → H → Prop) : denF ty (gam J [(136, w136 c136), (137, w137 c137), (138, w138 c138)]) Tryz.f111 [(.int .i64 a0), (.int .i64 a1)] h k = s111G J c136 c137 c138 a0 a1 h (fun r0 h => k (.str r0) h) := by kernel_rfl
noncomputable def g111 : Fun := w111 s111
theorem g111_ok : FunOk Tryz.prog 111 g111 := (fun_ok ty_ok mixed (gam_ok (J := J0) (tab_cons g136_ok (tab_cons g137_ok (tab_cons g138_ok (tab_nil fls_fun))))) Tryz.func111 (fun args w => by simp)).imp fun xs h k e0 => by
  obtain ⟨a0, xs0, rfl, e1⟩ := arg_imp e0
  obtain ⟨a1, xs1, rfl, e2⟩ := arg_imp e1
  obtain ⟨rfl, e3⟩ := noArg_imp e2
  obtain ⟨a0, rfl, e4⟩ := asI_iff.1 e3
  obtain ⟨a1, rfl, e5⟩ := asI_iff.1 e4
  exact (s111_eq J0 s136 s137 s138 a0 a1 h k).mpr e5
/-- internal/strconv.Itoa -/
noncomputable def s90G (J : Joins) (c111 : Int → Int → H → (Str → H → Prop) → Prop) (a0 : Int) (h : H) (k : Str → H → Prop) : Prop :=
c111 a0 (Int.ofNat 10) h fun s2 h1 =>
k s2 h1
noncomputable def s90 : Int → H → (Str → H → Prop) → Prop := s90G J0 s111
noncomputable def w90 (c : Int → H → (Str → H → Prop) → Prop) : Fun := fun xs h k => arg xs fun a0 xs => noArg xs <| asI .i64 a0 fun a0 => c a0 h fun r0 h => k (.str r0) h
theorem s90_eq (J : Joins) (c111 : Int → Int → H → (Str → H → Prop) → Prop) (a0 : Int) (h : H) (k : AV → H → Prop) : denF ty (gam J [(111, w111 c111)]) Tryz.f90 [(.int .i64 a0)] h k = s90G J c111 a0 h (fun r0 h => k (.str r0) h) := by kernel_rfl
noncomputable def g90 : Fun := w90 s90
theorem g90_ok : FunOk Tryz.prog 90 g90 := (fun_ok ty_ok mixed (gam_ok (J := J0) (tab_cons g111_ok (tab_nil fls_fun))) Tryz.func90 (fun args w => by simp)).imp fun xs h k e0 => by
  obtain ⟨a0, xs0, rfl, e1⟩ := arg_imp e0
  obtain ⟨rfl, e2⟩ := noArg_imp e1
  obtain ⟨a0, rfl, e3⟩ := asI_iff.1 e2
  exact (s90_eq J0 s111 a0 h k).mpr e3
/-- strconv.Itoa -/
noncomputable def s65G (J : Joins) (c90 : Int → H → (Str → H → Prop) → Prop) (a0 : Int) (h : H) (k : Str → H → Prop) : Prop :=
c90 a0 h fun s2 h1 =>
k s2 h1
noncomputable def s65 : Int → H → (Str → H → Prop) → Prop := s65G J0 s90
noncomputable def w65 (c : Int → H → (Str → H → Prop) → Prop) : Fun := fun xs h k => arg xs fun a0 xs => noArg xs <| asI .i64 a0 fun a0 => c a0 h fun r0 h => k (.str r0) h
theorem s65_eq (J : Joins) (c90 : Int → H → (Str → H → Prop) → Prop) (a0 : Int) (h : H) (k : AV → H → Prop) : denF ty (gam J [(90, w90 c90)]) Tryz.f65 [(.int .i64 a0)] h k = s65G J c90 a0 h (fun r0 h => k (.str r0) h) := by kernel_rfl
noncomputable def g65 : Fun := w65 s65
theorem g65_ok : FunOk Tryz.prog 65 g65 := (fun_ok ty_ok mixed (gam_ok (J := J0) (tab_cons g90_ok (tab_nil fls_fun))) Tryz.func65 (fun args w => by simp)).imp fun xs h k e0 => by
  obtain ⟨a0, xs0, rfl, e1⟩ := arg_imp e0
  obtain ⟨rfl, e2⟩ := noArg_imp e1
  obtain ⟨a0, rfl, e3⟩ := asI_iff.1 e2
  exact (s65_eq J0 s90 a0 h k).mpr e3
/-- math/bits.Mul32 -/
noncomputable def s112G (J : Joins) (a0 : Int) (a1 : Int) (h : H) (k : Int → Int → H → Prop) : Prop :=
fI (wrapF .u64 a0) fun x1 =>
fI (wrapF .u64 a1) fun x2 =>
fI (wrapF .u64 (Int.mul x1 x2)) fun x3 =>
fI (shrF x3 (nmin 32 (IntKind.bits .u64))) fun x4 =>
fI (wrapF .u32 x4) fun x5 =>
fI (wrapF .u32 x3) fun x6 =>
k x5 x6 h
noncomputable def s112 : Int → Int → H → (Int → Int → H → Prop) → Prop := s112G J0 
noncomputable def w112 (c : Int → Int → H → (Int → Int → H → Prop) → Prop) : Fun := fun xs h k => arg xs fun a0 xs => arg xs fun a1 xs => noArg xs <| asI .u32 a0 fun a0 => asI .u32 a1 fun a1 => c a0 a1 h fun r0 r1 h => k (.tuple [(.int .u32 r0), (.int .u32 r1)]) h
theorem s112_eq (J : Joins) (a0 : Int) (a1 : Int) (h : H) (k : AV → H → Prop) : denF ty (gam J []) Tryz.f112 [(.int .u32 a0), (.int .u32 a1)] h k = s112G J  a0 a1 h (fun r0 r1 h => k (.tuple [(.int .u32 r0), (.int .u32 r1)]) h) := by kernel_rfl
noncomputable def g112 : Fun := w112 s112
theorem g112_ok : FunOk Tryz.prog 112 g112 := (fun_ok ty_ok mixed (gam_ok (J := J0) (tab_nil fls_fun)) Tryz.func112 (fun args w => by simp)).imp fun xs h k e0 => by
  obtain ⟨a0, xs0, rfl, e1⟩ := arg_imp e0
  obtain ⟨a1, xs1, rfl, e2⟩ := arg_imp e1
  obtain ⟨rfl, e3⟩ := noArg_imp e2
  obtain ⟨a0, rfl, e4⟩ := asI_iff.1 e3
  obtain ⟨a1, rfl, e5⟩ := asI_iff.1 e4
  exact (s112_eq J0  a0 a1 h k).mpr e5
/-- math/bits.Mul64 -/
noncomputable def s113G (J : Joins) (a0 : Int) (a1 : Int) (h : H) (k : Int → Int → H → Prop) : Prop :=
fI (landF .u64 a0 (Int.ofNat 4294967295)) fun x1 =>
fI (shrF a0 (nmin 32 (IntKind.bits .u64))) fun x2 =>
fI (landF .u64 a1 (Int.ofNat 4294967295)) fun x3 =>
fI (shrF a1 (nmin 32 (IntKind.bits .u64))) fun x4 =>
fI (wrapF .u64 (Int.mul x1 x3)) fun x5 =>
fI (wrapF .u64 (Int.mul x2 x3)) fun x6 =>
fI (shrF x5 (nmin 32 (IntKind.bits .u64))) fun x7 =>
fI (wrapF .u64 (Int.add x6 x7)) fun x8 =>
fI (landF .u64 x8 (Int.ofNat 4294967295)) fun x9 =>
fI (shrF x8 (nmin 32 (IntKind.bits .u64))) fun x10 =>
fI (wrapF .u64 (Int.mul x1 x4)) fun x11 =>
fI (wrapF .u64 (Int.add x9 x11)) fun x12 =>
fI (wrapF .u64 (Int.mul x2 x4)) fun x13 =>
fI (wrapF .u64 (Int.add x13 x10)) fun x14 =>
fI (shrF x12 (nmin 32 (IntKind.bits .u64))) fun x15 =>
fI (wrapF .u64 (Int.add x14 x15)) fun x16 =>
fI (wrapF .u64 (Int.mul a0 a1)) fun x17 =>
k x16 x17 h
noncomputable def s113 : Int → Int → H → (Int → Int → H → Prop) → Prop := s113G J0 
noncomputable def w113 (c : Int → Int → H → (Int → Int → H → Prop) → Prop) : Fun := fun xs h k => arg xs fun a0 xs => arg xs fun a1 xs => noArg xs <| asI .u64 a0 fun a0 => asI .u64 a1 fun a1 => c a0 a1 h fun r0 r1 h => k (.tuple [(.int .u64 r0), (.int .u64 r1)]) h
theorem s113_eq (J : Joins) (a0 : Int) (a1 : Int) (h : H) (k : AV → H → Prop) : denF ty (gam J []) Tryz.f113 [(.int .u64 a0), (.int .u64 a1)] h k = s113G J  a0 a1 h (fun r0 r1 h => k (.tuple [(.int .u64 r0), (.int .u64 r1)]) h) := by kernel_rfl
noncomputable def g113 : Fun := w113 s113
theorem g113_ok : FunOk Tryz.prog 113 g113 := (fun_ok ty_ok mixed (gam_ok (J := J0) (tab_nil fls_fun)) Tryz.func113 (fun args w => by simp)).imp fun xs h k e0 => by
  obtain ⟨a0, xs0, rfl, e1⟩ := arg_imp e0
  obtain ⟨a1, xs1, rfl, e2⟩ := arg_imp e1
  obtain ⟨rfl, e3⟩ := noArg_imp e2
  obtain ⟨a0, rfl, e4⟩ := asI_iff.1 e3
  obtain ⟨a1, rfl, e5⟩ := asI_iff.1 e4
  exact (s113_eq J0  a0 a1 h k).mpr e5
/-- math/bits.Mul -/
noncomputable def s91G (J : Joins) (c112 : Int → Int → H → (Int → Int → H → Prop) → Prop) (c113 : Int → Int → H → (Int → Int → H → Prop) → Prop) (a0 : Int) (a1 : Int) (h : H) (k : Int → Int → H → Prop) : Prop :=
br false (
fI (wrapF .u32 a0) fun x1 =>
fI (wrapF .u32 a1) fun x2 =>
c112 x1 x2 h fun x4 x5 h3 =>
fI (wrapF .u64 x4) fun x6 =>
fI (wrapF .u64 x5) fun x7 =>
k x6 x7 h3) (
c113 a0 a1 h fun x9 x10 h8 =>
k x9 x10 h8)
noncomputable def s91 : Int → Int → H → (Int → Int → H → Prop) → Prop := s91G J0 s112 s113
noncomputable def w91 (c : Int → Int → H → (Int → Int → H → Prop) → Prop) : Fun := fun xs h k => arg xs fun a0 xs => arg xs fun a1 xs => noArg xs <| asI .u64 a0 fun a0 => asI .u64 a1 fun a1 => c a0 a1 h fun r0 r1 h => k (.tuple [(.int .u64 r0), (.int .u64 r1)]) h
theorem s91_eq (J : Joins) (c112 : Int → Int → H → (Int → Int → H → Prop) → Prop) (c113 : Int → Int → H → (Int → Int → H → Prop) → Prop) (a0 : Int) (a1 : Int) (h : H) (k : AV → H → Prop) : denF ty (gam J [(112, w112 c112), (113, w113 c113)]) Tryz.f91 [(.int .u64 a0), (.int .u64 a1)] h k = s91G J c112 c113 a0 a1 h (fun r0 r1 h => k (.tuple [(.int .u64 r0), (.int .u64 r1)]) h) := by kernel_rfl
noncomputable def g91 : Fun := w91 s91
theorem g91_ok : FunOk Tryz.prog 91 g91 := (fun_ok ty_ok mixed (gam_ok (J := J0) (tab_cons g112_ok (tab_cons g113_ok (tab_nil fls_fun)))) Tryz.func91 (fun args w => by simp)).imp fun xs h k e0 => by
  obtain ⟨a0, xs0, rfl, e1⟩ := arg_imp e0
  obtain ⟨a1, xs1, rfl, e2⟩ := arg_imp e1
  obtain ⟨rfl, e3⟩ := noArg_imp e2
  obtain ⟨a0, rfl, e4⟩ := asI_iff.1 e3
  obtain ⟨a1, rfl, e5⟩ := asI_iff.1 e4
  exact (s91_eq J0 s112 s113 a0 a1 h k).mpr e5
/-- internal/stringslite.HasPrefix -/
noncomputable def s114G (J : Joins) (a0 : Str) (a1 : Str) (h : H) (k : Bool → H → Prop) : Prop :=
fB (Bool.not (ltI (Int.ofNat a0.len) (Int.ofNat a1.len))) fun b1 =>
J.jn (fun v2 h3 =>
J.jn (fun v5 h6 =>
J.jn (fun v8 h9 =>
J.jn (fun v12 h13 =>
J.jn (fun v16 h17 =>
J.jn (fun v19 h20 =>
pickB (AV.bool b1) v19 (AV.bool false) fun b25 =>
k b25 h20) fun j21 =>
br b1 (
asS v12 fun s22 =>
asS v16 fun s23 =>
fB (Str.beq s22 s23) fun b24 =>
j21 (AV.bool b24) h17) (
j21 skipV h17)) fun j18 =>
br b1 (
j18 (AV.str a1) h13) (
j18 skipV h13)) fun j14 =>
br b1 (
subK v2 none (some v8) fun s15 =>
j14 (AV.str s15) h9) (
j14 skipV h9)) fun j10 =>
br b1 (
asS v5 fun s11 =>
j10 (AV.int .i64 (Int.ofNat s11.len)) h6) (
j10 skipV h6)) fun j7 =>
br b1 (
j7 (AV.str a1) h3) (
j7 skipV h3)) fun j4 =>
br b1 (
j4 (AV.str a0) h) (
j4 skipV h)
noncomputable def s114 : Str → Str → H → (Bool → H → Prop) → Prop := s114G J0 
noncomputable def w114 (c : Str → Str → H → (Bool → H → Prop) → Prop) : Fun := fun xs h k => arg xs fun a0 xs => arg xs fun a1 xs => noArg xs <| asS a0 fun a0 => asS a1 fun a1 => c a0 a1 h fun r0 h => k (.bool r0) h
theorem s114_eq (J : Joins) (a0 : Str) (a1 : Str) (h : H) (k : AV → H → Prop) : denF ty (gam J []) Tryz.f114 [(.str a0), (.str a1)] h k = s114G J  a0 a1 h (fun r0 h => k (.bool r0) h) := by kernel_rfl
noncomputable def g114 : Fun := w114 s114
theorem g114_ok : FunOk Tryz.prog 114 g114 := (fun_ok ty_ok mixed (gam_ok (J := J0) (tab_nil fls_fun)) Tryz.func114 (fun args w => by simp)).imp fun xs h k e0 => by
  obtain ⟨a0, xs0, rfl, e1⟩ := arg_imp e0
  obtain ⟨a1, xs1, rfl, e2⟩ := arg_imp e1
  obtain ⟨rfl, e3⟩ := noArg_imp e2
  obtain ⟨a0, rfl, e4⟩ := asS_iff.1 e3
  obtain ⟨a1, rfl, e5⟩ := asS_iff.1 e4
  exact (s114_eq J0  a0 a1 h k).mpr e5
/-- strings.HasPrefix -/
noncomputable def s92G (J : Joins) (c114 : Str → Str → H → (Bool → H → Prop) → Prop) (a0 : Str) (a1 : Str) (h : H) (k : Bool → H → Prop) : Prop :=
c114 a0 a1 h fun b2 h1 =>
k b2 h1
noncomputable def s92 : Str → Str → H → (Bool → H → Prop) → Prop := s92G J0 s114
noncomputable def w92 (c : Str → Str → H → (Bool → H → Prop) → Prop) : Fun := fun xs h k => arg xs fun a0 xs => arg xs fun a1 xs => noArg xs <| asS a0 fun a0 => asS a1 fun a1 => c a0 a1 h fun r0 h => k (.bool r0) h
theorem s92_eq (J : Joins) (c114 : Str → Str → H → (Bool → H → Prop) → Prop) (a0 : Str) (a1 : Str) (h : H) (k : AV → H → Prop) : denF ty (gam J [(114, w114 c114)]) Tryz.f92 [(.str a0), (.str a1)] h k = s92G J c114 a0 a1 h (fun r0 h => k (.bool r0) h) := by kernel_rfl
noncomputable def g92 : Fun := w92 s92
theorem g92_ok : FunOk Tryz.prog 92 g92 := (fun_ok ty_ok mixed (gam_ok (J := J0) (tab_cons g114_ok (tab_nil fls_fun))) Tryz.func92 (fun args w => by simp)).imp fun xs h k e0 => by
  obtain ⟨a0, xs0, rfl, e1⟩ := arg_imp e0
  obtain ⟨a1, xs1, rfl, e2⟩ := arg_imp e1
  obtain ⟨rfl, e3⟩ := noArg_imp e2
  obtain ⟨a0, rfl, e4⟩ := asS_iff.1 e3
  obtain ⟨a1, rfl, e5⟩ := asS_iff.1 e4
  exact (s92_eq J0 s114 a0 a1 h k).mpr e5
/-- internal/abi.NoEscape -/
noncomputable def g140 : Fun := noEsc
theorem g140_ok : FunOk Tryz.prog 140 g140 := noEscape_ok Tryz.func140 (by kernel_rfl) (by kernel_rfl) (by kernel_rfl) (by kernel_rfl)
/-- (*strings.Builder).copyCheck -/
noncomputable def s115G (J : Joins) (c140 : Fun) (a0 : AV) (h : H) (k : H → Prop) : Prop :=
okNil a0 (
faK 0 a0 fun p1 =>
ldV p1 h fun v2 =>
nilB 0 v2 fun b3 =>
br b3 (
op' (aToU a0 h) fun v4 =>
c140 [v4] h fun v5 h6 =>
op' (aOfU 145 2 v5 h6) fun v7 =>
okNil a0 (
faK 0 a0 fun p8 =>
stV p8 v7 h6 fun h9 =>
k  h9)) (
okNil a0 (
faK 0 a0 fun p10 =>
ldV p10 h fun v11 =>
obK (aBin ty .neq 143 false v11 a0) fun b12 =>
br b12 (
False) (
k  h))))
noncomputable def s115 : AV → H → (H → Prop) → Prop := s115G J0 g140
noncomputable def w115 (c : AV → H → (H → Prop) → Prop) : Fun := fun xs h k => arg xs fun a0 xs => noArg xs <| c a0 h fun  h => k (.tuple []) h
theorem s115_eq (J : Joins) (c140 : Fun) (a0 : AV) (h : H) (k : AV → H → Prop) : denF ty (gam J [(140, c140)]) Tryz.f115 [a0] h k = s115G J c140 a0 h (fun  h => k (.tuple []) h) := by kernel_rfl
noncomputable def g115 : Fun := w115 s115
theorem g115_ok : FunOk Tryz.prog 115 g115 := (fun_ok ty_ok mixed (gam_ok (J := J0) (tab_cons g140_ok (tab_nil fls_fun))) Tryz.func115 (fun args w => by simp)).imp fun xs h k e0 => by
  obtain ⟨a0, xs0, rfl, e1⟩ := arg_imp e0
  obtain ⟨rfl, e2⟩ := noArg_imp e1
  exact (s115_eq J0 g140 a0 h k).mpr e2
/-- (*strings.Builder).grow -/
noncomputable def s116G (J : Joins) (a0 : AV) (a1 : Int) (h : H) (k : H → Prop) : Prop :=
okNil a0 (
faK 1 a0 fun p1 =>
ldV p1 h fun v2 =>
okNil a0 (
faK 1 a0 fun p3 =>
ldV p3 h fun v4 =>
lenK v4 fun x5 =>
False))
noncomputable def s116 : AV → Int → H → (H → Prop) → Prop := s116G J0 
noncomputable def w116 (c : AV → Int → H → (H → Prop) → Prop) : Fun := fun xs h k => arg xs fun a0 xs => arg xs fun a1 xs => noArg xs <| asI .i64 a1 fun a1 => c a0 a1 h fun  h => k (.tuple []) h
theorem s116_eq (J : Joins) (a0 : AV) (a1 : Int) (h : H) (k : AV → H → Prop) : denF ty (gam J []) Tryz.f116 [a0, (.int .i64 a1)] h k = s116G J  a0 a1 h (fun  h => k (.tuple []) h) := by kernel_rfl
noncomputable def g116 : Fun := w116 s116
theorem g116_ok : FunOk Tryz.prog 116 g116 := (fun_ok ty_ok mixed (gam_ok (J := J0) (tab_nil fls_fun)) Tryz.func116 (fun args w => by simp)).imp fun xs h k e0 => by
  obtain ⟨a0, xs0, rfl, e1⟩ := arg_imp e0
  obtain ⟨a1, xs1, rfl, e2⟩ := arg_imp e1
  obtain ⟨rfl, e3⟩ := noArg_imp e2
  obtain ⟨a1, rfl, e4⟩ := asI_iff.1 e3
  exact (s116_eq J0  a0 a1 h k).mpr e4
/-- (*strings.Builder).Grow -/
noncomputable def s93G (J : Joins) (c115 : AV → H → (H → Prop) → Prop) (c116 : AV → Int → H → (H → Prop) → Prop) (a0 : AV) (a1 : Int) (h : H) (k : H → Prop) : Prop :=
c115 a0 h fun  h1 =>
J.jd (α := AV × AV × Unit) (fun v2 d3 h4 =>
okNil v2.1 (
faK 1 v2.1 fun p6 =>
ldV p6 h4 fun v7 =>
okNil v2.1 (
faK 1 v2.1 fun p8 =>
ldV p8 h4 fun v9 =>
lenK v9 fun x10 =>
False))) fun j5 =>
fB (ltI a1 (Int.ofNat 0)) fun b11 =>
br b11 (
False) (
j5 (a0, (AV.int .i64 a1), ()) [] h1)
noncomputable def s93 : AV → Int → H → (H → Prop) → Prop := s93G J0 s115 s116
noncomputable def w93 (c : AV → Int → H → (H → Prop) → Prop) : Fun := fun xs h k => arg xs fun a0 xs => arg xs fun a1 xs => noArg xs <| asI .i64 a1 fun a1 => c a0 a1 h fun  h => k (.tuple []) h
theorem s93_eq (J : Joins) (c115 : AV → H → (H → Prop) → Prop) (c116 : AV → Int → H → (H → Prop) → Prop) (a0 : AV) (a1 : Int) (h : H) (k : AV → H → Prop) : denF ty (gam J [(115, w115 c115), (116, w116 c116)]) Tryz.f93 [a0, (.int .i64 a1)] h k = s93G J c115 c116 a0 a1 h (fun  h => k (.tuple []) h) := by kernel_rfl
noncomputable def g93 : Fun := w93 s93
theorem g93_ok : FunOk Tryz.prog 93 g93 := (fun_ok ty_ok mixed (gam_ok (J := J0) (tab_cons g115_ok (tab_cons g116_ok (tab_nil fls_fun)))) Tryz.func93 (fun args w => by simp)).imp fun xs h k e0 => by
  obtain ⟨a0, xs0, rfl, e1⟩ := arg_imp e0
  obtain ⟨a1, xs1, rfl, e2⟩ := arg_imp e1
  obtain ⟨rfl, e3⟩ := noArg_imp e2
  obtain ⟨a1, rfl, e4⟩ := asI_iff.1 e3
  exact (s93_eq J0 s115 s116 a0 a1 h k).mpr e4
/-- (*strings.Builder).WriteString -/
noncomputable def s94G (J : Joins) (c115 : AV → H → (H → Prop) → Prop) (a0 : AV) (a1 : Str) (h : H) (k : Int → AV → H → Prop) : Prop :=
c115 a0 h fun  h1 =>
okNil a0 (
faK 1 a0 fun p2 =>
ldV p2 h1 fun v3 =>
apB .str 5 v3 (AV.str a1) h1 fun v4 h5 =>
okNil a0 (
faK 1 a0 fun p6 =>
stV p6 v4 h5 fun h7 =>
k (Int.ofNat a1.len) AV.nili h7))
noncomputable def s94 : AV → Str → H → (Int → AV → H → Prop) → Prop := s94G J0 s115
noncomputable def w94 (c : AV → Str → H → (Int → AV → H → Prop) → Prop) : Fun := fun xs h k => arg xs fun a0 xs => arg xs fun a1 xs => noArg xs <| asS a1 fun a1 => c a0 a1 h fun r0 r1 h => k (.tuple [(.int .i64 r0), r1]) h
theorem s94_eq (J : Joins) (c115 : AV → H → (H → Prop) → Prop) (a0 : AV) (a1 : Str) (h : H) (k : AV → H → Prop) : denF ty (gam J [(115, w115 c115)]) Tryz.f94 [a0, (.str a1)] h k = s94G J c115 a0 a1 h (fun r0 r1 h => k (.tuple [(.int .i64 r0), r1]) h) := by kernel_rfl
noncomputable def g94 : Fun := w94 s94
theorem g94_ok : FunOk Tryz.prog 94 g94 := (fun_ok ty_ok mixed (gam_ok (J := J0) (tab_cons g115_ok (tab_nil fls_fun))) Tryz.func94 (fun args w => by simp)).imp fun xs h k e0 => by
  obtain ⟨a0, xs0, rfl, e1⟩ := arg_imp e0
  obtain ⟨a1, xs1, rfl, e2⟩ := arg_imp e1
  obtain ⟨rfl, e3⟩ := noArg_imp e2
  obtain ⟨a1, rfl, e4⟩ := asS_iff.1 e3
  exact (s94_eq J0 s115 a0 a1 h k).mpr e4
/-- (*strings.Builder).String -/
noncomputable def s96G (J : Joins) (a0 : AV) (h : H) (k : Str → H → Prop) : Prop :=
okNil a0 (
faK 1 a0 fun p1 =>
ldV p1 h fun v2 =>
spX (aSliceData v2) fun v3 =>
okNil a0 (
faK 1 a0 fun p4 =>
ldV p4 h fun v5 =>
lenK v5 fun x6 =>
op2 (aUnStr 5 v3 (AV.int .i64 (Int.ofNat x6)) h) fun v7 h8 =>
asS v7 fun s9 =>
k s9 h8))
noncomputable def s96 : AV → H → (Str → H → Prop) → Prop := s96G J0 
noncomputable def w96 (c : AV → H → (Str → H → Prop) → Prop) : Fun := fun xs h k => arg xs fun a0 xs => noArg xs <| c a0 h fun r0 h => k (.str r0) h
theorem s96_eq (J : Joins) (a0 : AV) (h : H) (k : AV → H → Prop) : denF ty (gam J []) Tryz.f96 [a0] h k = s96G J  a0 h (fun r0 h => k (.str r0) h) := by kernel_rfl
noncomputable def g96 : Fun := w96 s96
theorem g96_ok : FunOk Tryz.prog 96 g96 := (fun_ok ty_ok mixed (gam_ok (J := J0) (tab_nil fls_fun)) Tryz.func96 (fun args w => by simp)).imp fun xs h k e0 => by
  obtain ⟨a0, xs0, rfl, e1⟩ := arg_imp e0
  obtain ⟨rfl, e2⟩ := noArg_imp e1
  exact (s96_eq J0  a0 h k).mpr e2
/-- strings.Repeat -/
noncomputable def s66G (J : Joins) (c91 : Int → Int → H → (Int → Int → H → Prop) → Prop) (c92 : Str → Str → H → (Bool → H → Prop) → Prop) (c93 : AV → Int → H → (H → Prop) → Prop) (c94 : AV → Str → H → (Int → AV → H → Prop) → Prop) (c96 : AV → H → (Str → H → Prop) → Prop) (a0 : Str) (a1 : Int) (h : H) (k : Str → H → Prop) : Prop :=
fB (eqI a1 (Int.ofNat 0)) fun b1 =>
br b1 (
k ⟨0, 0⟩ h) (
fB (eqI a1 (Int.ofNat 1)) fun b2 =>
br b2 (
k a0 h) (
J.jd (α := AV × AV × Unit) (fun v3 d4 h5 =>
asS v3.1 fun s7 =>
fI (wrapF .u64 (Int.ofNat s7.len)) fun x8 =>
asI .i64 v3.2.1 fun x9 =>
fI (wrapF .u64 x9) fun x10 =>
c91 x8 x10 h5 fun x12 x13 h11 =>
J.jd (α := AV × AV × Unit) (fun v14 d15 h16 =>
asI .u64 v14.2.1 fun x18 =>
fI (wrapF .i64 x18) fun x19 =>
asS v14.1 fun s20 =>
fB (eqI (Int.ofNat s20.len) (Int.ofNat 0)) fun b21 =>
br b21 (
leaveK (gam J [(91, w91 c91), (92, w92 c92), (93, w93 c93), (94, w94 c94), (96, w96 c96)]) d15 h16 fun h22 =>
k ⟨0, 0⟩ h22) (
J.jd (α := AV × AV × Unit) (fun v23 d24 h25 =>
J.jd (α := AV × AV × AV × Unit) (fun v27 d28 h29 =>
pushK (.cells false 145 [(.nilp), (.nils)]) h29 fun n31 h32 =>
asI .i64 v27.2.1 fun x34 =>
c93 (AV.ptr n31 0) x34 h32 fun  h33 =>
asS v27.1 fun s36 =>
c94 (AV.ptr n31 0) s36 h33 fun x37 v38 h35 =>
J.lp (α := AV × AV × AV × Unit) (fun r42 v39 d40 h41 =>
False) (v27.2.1, v27.2.2.1, (AV.ptr n31 0), ()) d28 h35) fun j30 =>
asI .i64 v23.2.1 fun x43 =>
fB (ltI (Int.ofNat 8192) x43) fun b44 =>
br b44 (
asS v23.1 fun s45 =>
ck (Bool.not (eqI (Int.ofNat s45.len) 0)) (fI (wrapF .i64 (Int.tdiv (Int.ofNat 8192) (Int.ofNat s45.len))) fun x46 =>
asS v23.1 fun s47 =>
fI (wrapF .i64 (Int.mul x46 (Int.ofNat s47.len))) fun x48 =>
fB (eqI x48 (Int.ofNat 0)) fun b49 =>
br b49 (
asS v23.1 fun s50 =>
j30 (v23.1, v23.2.1, (AV.int .i64 (Int.ofNat s50.len)), ()) d24 h25) (
j30 (v23.1, v23.2.1, (AV.int .i64 x48), ()) d24 h25))) (
j30 (v23.1, v23.2.1, v23.2.1, ()) d24 h25)) fun j26 =>
ixsK v14.1 (AV.int .i64 (Int.ofNat 0)) fun x51 =>
J.jd (α := AV × AV × AV × Unit) (fun v52 d53 h54 =>
asB v52.2.2.1 fun b56 =>
br b56 (
asI .i64 v52.2.1 fun x57 =>
fB (Bool.not (ltI (Int.ofNat 128) x57)) fun b58 =>
J.jn (fun v59 h60 =>
J.jn (fun v62 h63 =>
pickB (AV.bool b58) v62 (AV.bool false) fun b68 =>
br b68 (
subK (AV.str ⟨128, 22559286398272199626406967100097565284617750323981886402940245478617433826572669883320279507125651579120955467277978774294436363145338556548122030511620282274857147410179198152320278538195588281656857468496941900403218909156701224341824390342378319957753789576104947230111026941299415379430319225678334009376⟩) none (some v52.2.1) fun s69 =>
leaveK (gam J [(91, w91 c91), (92, w92 c92), (93, w93 c93), (94, w94 c94), (96, w96 c96)]) d53 h63 fun h70 =>
k s69 h70) (
asI .i64 v52.2.1 fun x71 =>
fB (Bool.not (ltI (Int.ofNat 128) x71)) fun b72 =>
J.jn (fun v73 h74 =>
J.jn (fun v76 h77 =>
pickB (AV.bool b72) v76 (AV.bool false) fun b82 =>
br b82 (
subK (AV.str ⟨128, 31723996497570280724634797484512201181493711393099527754134720204305766318617817023419143056895447533138843625859657651351551135673132345145796605406966021949017863545564497401700391694337546021079955815073824547442026591001611096730690548918969512440591266591397582042343631636202302877323886411110157200685⟩) none (some v52.2.1) fun s83 =>
leaveK (gam J [(91, w91 c91), (92, w92 c92), (93, w93 c93), (94, w94 c94), (96, w96 c96)]) d53 h77 fun h84 =>
k s83 h84) (
asI .i64 v52.2.1 fun x85 =>
fB (Bool.not (ltI (Int.ofNat 64) x85)) fun b86 =>
J.jn (fun v87 h88 =>
J.jn (fun v90 h91 =>
pickB (AV.bool b86) v90 (AV.bool false) fun b96 =>
br b96 (
subK (AV.str ⟨64, 2523822669165665336390404705544629859290233566229156400512670389406449699778550019162705750243181821682829526246867962513647789705778177872269863342321712⟩) none (some v52.2.1) fun s97 =>
leaveK (gam J [(91, w91 c91), (92, w92 c92), (93, w93 c93), (94, w94 c94), (96, w96 c96)]) d53 h91 fun h98 =>
k s97 h98) (
asI .i64 v52.2.1 fun x99 =>
fB (Bool.not (ltI (Int.ofNat 128) x99)) fun b100 =>
J.jn (fun v101 h102 =>
J.jn (fun v104 h105 =>
pickB (AV.bool b100) v104 (AV.bool false) fun b110 =>
br b110 (
subK (AV.str ⟨128, 43003639696706380537838281034560983823802586555090470955604842943614483231904151965079282810458273322699321359498647038498769317245801623419857620662776163086446437250654096477860530963435340161908384549322295497643636045579961708901602744090158672419468161379450055657399145106852010567039046023949324205373⟩) none (some v52.2.1) fun s111 =>
leaveK (gam J [(91, w91 c91), (92, w92 c92), (93, w93 c93), (94, w94 c94), (96, w96 c96)]) d53 h105 fun h112 =>
k s111 h112) (
asI .i64 v52.2.1 fun x113 =>
fB (Bool.not (ltI (Int.ofNat 64) x113)) fun b114 =>
J.jn (fun v115 h116 =>
J.jn (fun v118 h119 =>
pickB (AV.bool b114) v118 (AV.bool false) fun b124 =>
br b124 (
subK (AV.str ⟨64, 473216750468562250573200882289618098616918793667966825096125698013709318708478128593007328170596591565530536171287742971308960569833408351050599376685321⟩) none (some v52.2.1) fun s125 =>
leaveK (gam J [(91, w91 c91), (92, w92 c92), (93, w93 c93), (94, w94 c94), (96, w96 c96)]) d53 h119 fun h126 =>
k s125 h126) (
j26 (v52.1, v52.2.1, ()) d53 h119)) fun j120 =>
br b114 (
asS v115 fun s122 =>
c92 ⟨64, 473216750468562250573200882289618098616918793667966825096125698013709318708478128593007328170596591565530536171287742971308960569833408351050599376685321⟩ s122 h116 fun b123 h121 =>
j120 (AV.bool b123) h121) (
j120 skipV h116)) fun j117 =>
br b114 (
j117 v52.1 h105) (
j117 skipV h105))) fun j106 =>
br b100 (
asS v101 fun s108 =>
c92 ⟨128, 43003639696706380537838281034560983823802586555090470955604842943614483231904151965079282810458273322699321359498647038498769317245801623419857620662776163086446437250654096477860530963435340161908384549322295497643636045579961708901602744090158672419468161379450055657399145106852010567039046023949324205373⟩ s108 h102 fun b109 h107 =>
j106 (AV.bool b109) h107) (
j106 skipV h102)) fun j103 =>
br b100 (
j103 v52.1 h91) (
j103 skipV h91))) fun j92 =>
br b86 (
asS v87 fun s94 =>
c92 ⟨64, 2523822669165665336390404705544629859290233566229156400512670389406449699778550019162705750243181821682829526246867962513647789705778177872269863342321712⟩ s94 h88 fun b95 h93 =>
j92 (AV.bool b95) h93) (
j92 skipV h88)) fun j89 =>
br b86 (
j89 v52.1 h77) (
j89 skipV h77))) fun j78 =>
br b72 (
asS v73 fun s80 =>
c92 ⟨128, 31723996497570280724634797484512201181493711393099527754134720204305766318617817023419143056895447533138843625859657651351551135673132345145796605406966021949017863545564497401700391694337546021079955815073824547442026591001611096730690548918969512440591266591397582042343631636202302877323886411110157200685⟩ s80 h74 fun b81 h79 =>
j78 (AV.bool b81) h79) (
j78 skipV h74)) fun j75 =>
br b72 (
j75 v52.1 h63) (
j75 skipV h63))) fun j64 =>
br b58 (
asS v59 fun s66 =>
c92 ⟨128, 22559286398272199626406967100097565284617750323981886402940245478617433826572669883320279507125651579120955467277978774294436363145338556548122030511620282274857147410179198152320278538195588281656857468496941900403218909156701224341824390342378319957753789576104947230111026941299415379430319225678334009376⟩ s66 h60 fun b67 h65 =>
j64 (AV.bool b67) h65) (
j64 skipV h60)) fun j61 =>
br b58 (
j61 v52.1 h54) (
j61 skipV h54)) (
j26 (v52.1, v52.2.1, ()) d53 h54)) fun j55 =>
fB (eqI x51 (Int.ofNat 32)) fun b127 =>
br b127 (
j55 (v14.1, (AV.int .i64 x19), (AV.bool b127), ()) d15 h16) (
fB (eqI x51 (Int.ofNat 45)) fun b128 =>
br b128 (
j55 (v14.1, (AV.int .i64 x19), (AV.bool b128), ()) d15 h16) (
fB (eqI x51 (Int.ofNat 48)) fun b129 =>
br b129 (
j55 (v14.1, (AV.int .i64 x19), (AV.bool b129), ()) d15 h16) (
fB (eqI x51 (Int.ofNat 61)) fun b130 =>
br b130 (
j55 (v14.1, (AV.int .i64 x19), (AV.bool b130), ()) d15 h16) (
fB (eqI x51 (Int.ofNat 9)) fun b131 =>
j55 (v14.1, (AV.int .i64 x19), (AV.bool b131), ()) d15 h16)))))) fun j17 =>
fB (ltI (Int.ofNat 0) x12) fun b132 =>
J.jn (fun v133 h134 =>
J.jn (fun v136 h137 =>
pickB (AV.bool b132) (AV.bool true) v136 fun b141 =>
br b141 (
False) (
j17 (v3.1, (AV.int .u64 x13), ()) d4 h137)) fun j138 =>
br b132 (
j138 skipV h134) (
asI .u64 v133 fun x139 =>
fB (ltI (Int.ofNat 9223372036854775807) x139) fun b140 =>
j138 (AV.bool b140) h134)) fun j135 =>
br b132 (
j135 skipV h11) (
j135 (AV.int .u64 x13) h11)) fun j6 =>
fB (ltI a1 (Int.ofNat 0)) fun b142 =>
br b142 (
False) (
j6 ((AV.str a0), (AV.int .i64 a1), ()) [] h)))
noncomputable def s66 : Str → Int → H → (Str → H → Prop) → Prop := s66G J0 s91 s92 s93 s94 s96
noncomputable def w66 (c : Str → Int → H → (Str → H → Prop) → Prop) : Fun := fun xs h k => arg xs fun a0 xs => arg xs fun a1 xs => noArg xs <| asS a0 fun a0 => asI .i64 a1 fun a1 => c a0 a1 h fun r0 h => k (.str r0) h
theorem s66_eq (J : Joins) (c91 : Int → Int → H → (Int → Int → H → Prop) → Prop) (c92 : Str → Str → H → (Bool → H → Prop) → Prop) (c93 : AV → Int → H → (H → Prop) → Prop) (c94 : AV → Str → H → (Int → AV → H → Prop) → Prop) (c96 : AV → H → (Str → H → Prop) → Prop) (a0 : Str) (a1 : Int) (h : H) (k : AV → H → Prop) : denF ty (gam J [(91, w91 c91), (92, w92 c92), (93, w93 c93), (94, w94 c94), (96, w96 c96)]) Tryz.f66 [(.str a0), (.int .i64 a1)] h k = s66G J c91 c92 c93 c94 c96 a0 a1 h (fun r0 h => k (.str r0) h) := by kernel_rfl
noncomputable def g66 : Fun := w66 s66
theorem g66_ok : FunOk Tryz.prog 66 g66 := (fun_ok ty_ok mixed (gam_ok (J := J0) (tab_cons g91_ok (tab_cons g92_ok (tab_cons g93_ok (tab_cons g94_ok (tab_cons g96_ok (tab_nil fls_fun))))))) Tryz.func66 (fun args w => by simp)).imp fun xs h k e0 => by
  obtain ⟨a0, xs0, rfl, e1⟩ := arg_imp e0
  obtain ⟨a1, xs1, rfl, e2⟩ := arg_imp e1
  obtain ⟨rfl, e3⟩ := noArg_imp e2
  obtain ⟨a0, rfl, e4⟩ := asS_iff.1 e3
  obtain ⟨a1, rfl, e5⟩ := asI_iff.1 e4
  exact (s66_eq J0 s91 s92 s93 s94 s96 a0 a1 h k).mpr e5
/-- stagepost/manifest.named -/
noncomputable def s31G (J : Joins) (c65 : Int → H → (Str → H → Prop) → Prop) (c66 : Str → Int → H → (Str → H → Prop) → Prop) (a0 : Int) (h : H) (k : Str → H → Prop) : Prop :=
c65 a0 h fun s2 h1 =>
fI (wrapF .i64 (Int.sub (Int.ofNat 6) (Int.ofNat s2.len))) fun x3 =>
c66 ⟨1, 48⟩ x3 h1 fun s5 h4 =>
ck (Nat.ble (Nat.add (⟨9, 2017715768791967953965⟩ : Str).len s5.len) 9223372036854775807) (fS (Str.cat (⟨9, 2017715768791967953965⟩ : Str) s5) fun s6 =>
ck (Nat.ble (Nat.add s6.len s2.len) 9223372036854775807) (fS (Str.cat s6 s2) fun s7 =>
k s7 h4))
noncomputable def s31 : Int → H → (Str → H → Prop) → Prop := s31G J0 s65 s66
noncomputable def w31 (c : Int → H → (Str → H → Prop) → Prop) : Fun := fun xs h k => arg xs fun a0 xs => noArg xs <| asI .i64 a0 fun a0 => c a0 h fun r0 h => k (.str r0) h
theorem s31_eq (J : Joins) (c65 : Int → H → (Str → H → Prop) → Prop) (c66 : Str → Int → H → (Str → H → Prop) → Prop) (a0 : Int) (h : H) (k : AV → H → Prop) : denF ty (gam J [(65, w65 c65), (66, w66 c66)]) Tryz.f31 [(.int .i64 a0)] h k = s31G J c65 c66 a0 h (fun r0 h => k (.str r0) h) := by kernel_rfl
noncomputable def g31 : Fun := w31 s31
theorem g31_ok : FunOk Tryz.prog 31 g31 := (fun_ok ty_ok mixed (gam_ok (J := J0) (tab_cons g65_ok (tab_cons g66_ok (tab_nil fls_fun)))) Tryz.func31 (fun args w => by simp)).imp fun xs h k e0 => by
  obtain ⟨a0, xs0, rfl, e1⟩ := arg_imp e0
  obtain ⟨rfl, e2⟩ := noArg_imp e1
  obtain ⟨a0, rfl, e3⟩ := asI_iff.1 e2
  exact (s31_eq J0 s65 s66 a0 h k).mpr e3
/-- (*stagepost/manifest.Manifest).none -/
noncomputable def s32G (J : Joins) (a0 : AV) (h : H) (k : Bool → H → Prop) : Prop :=
nilB 0 a0 fun b1 =>
J.jn (fun v2 h3 =>
J.jn (fun v5 h6 =>
J.jn (fun v8 h9 =>
J.jn (fun v12 h13 =>
J.jn (fun v16 h17 =>
pickB (AV.bool b1) (AV.bool true) v16 fun b21 =>
k b21 h17) fun j18 =>
br b1 (
j18 skipV h13) (
asB v12 fun b19 =>
fB (Bool.not b19) fun b20 =>
j18 (AV.bool b20) h13)) fun j14 =>
br b1 (
j14 skipV h9) (
ldB v8 h9 fun b15 =>
j14 (AV.bool b15) h9)) fun j10 =>
br b1 (
j10 skipV h6) (
faK 7 v5 fun p11 =>
j10 p11 h6)) fun j7 =>
br b1 (
j7 skipV h3) (
okNil v2 (
j7 v2 h3))) fun j4 =>
br b1 (
j4 skipV h) (
j4 a0 h)
noncomputable def s32 : AV → H → (Bool → H → Prop) → Prop := s32G J0 
noncomputable def w32 (c : AV → H → (Bool → H → Prop) → Prop) : Fun := fun xs h k => arg xs fun a0 xs => noArg xs <| c a0 h fun r0 h => k (.bool r0) h
theorem s32_eq (J : Joins) (a0 : AV) (h : H) (k : AV → H → Prop) : denF ty (gam J []) Tryz.f32 [a0] h k = s32G J  a0 h (fun r0 h => k (.bool r0) h) := by kernel_rfl
noncomputable def g32 : Fun := w32 s32
theorem g32_ok : FunOk Tryz.prog 32 g32 := (fun_ok ty_ok mixed (gam_ok (J := J0) (tab_nil fls_fun)) Tryz.func32 (fun args w => by simp)).imp fun xs h k e0 => by
  obtain ⟨a0, xs0, rfl, e1⟩ := arg_imp e0
  obtain ⟨rfl, e2⟩ := noArg_imp e1
  exact (s32_eq J0  a0 h k).mpr e2
/-- (*stagepost/manifest.Manifest).File -/
noncomputable def s10G (J : Joins) (c31 : Int → H → (Str → H → Prop) → Prop) (c32 : AV → H → (Bool → H → Prop) → Prop) (a0 : AV) (h : H) (k : Str → H → Prop) : Prop :=
c32 a0 h fun b2 h1 =>
br b2 (
k ⟨0, 0⟩ h1) (
okNil a0 (
faK 5 a0 fun p3 =>
ldI .i64 p3 h1 fun x4 =>
c31 x4 h1 fun s6 h5 =>
k s6 h5))
noncomputable def s10 : AV → H → (Str → H → Prop) → Prop := s10G J0 s31 s32
noncomputable def w10 (c : AV → H → (Str → H → Prop) → Prop) : Fun := fun xs h k => arg xs fun a0 xs => noArg xs <| c a0 h fun r0 h => k (.str r0) h
theorem s10_eq (J : Joins) (c31 : Int → H → (Str → H → Prop) → Prop) (c32 : AV → H → (Bool → H → Prop) → Prop) (a0 : AV) (h : H) (k : AV → H → Prop) : denF ty (gam J [(31, w31 c31), (32, w32 c32)]) Tryz.f10 [a0] h k = s10G J c31 c32 a0 h (fun r0 h => k (.str r0) h) := by kernel_rfl
noncomputable def g10 : Fun := w10 s10
theorem g10_ok : FunOk Tryz.prog 10 g10 := (fun_ok ty_ok mixed (gam_ok (J := J0) (tab_cons g31_ok (tab_cons g32_ok (tab_nil fls_fun)))) Tryz.func10 (fun args w => by simp)).imp fun xs h k e0 => by
  obtain ⟨a0, xs0, rfl, e1⟩ := arg_imp e0
  obtain ⟨rfl, e2⟩ := noArg_imp e1
  exact (s10_eq J0 s31 s32 a0 h k).mpr e2
/-- maps.clone -/
noncomputable def g103 : Fun := cloneF
theorem g103_ok : FunOk Tryz.prog 103 g103 := cloneF_ok Tryz.func103 (by kernel_rfl) (by kernel_rfl) (by kernel_rfl) (by kernel_rfl)
/-- maps.Clone[map[int][]byte,int,[]byte] -/
noncomputable def s77G (J : Joins) (c103 : Fun) (a0 : AV) (h : H) (k : AV → H → Prop) : Prop :=
nilB 4 a0 fun b1 =>
br b1 (
k AV.nilm h) (
c103 [(AV.iface 52 a0)] h fun v2 h3 =>
op' (aAssert ty 52 false v2) fun v4 =>
k v4 h3)
noncomputable def s77 : AV → H → (AV → H → Prop) → Prop := s77G J0 g103
noncomputable def w77 (c : AV → H → (AV → H → Prop) → Prop) : Fun := fun xs h k => arg xs fun a0 xs => noArg xs <| c a0 h fun r0 h => k r0 h
theorem s77_eq (J : Joins) (c103 : Fun) (a0 : AV) (h : H) (k : AV → H → Prop) : denF ty (gam J [(103, c103)]) Tryz.f77 [a0] h k = s77G J c103 a0 h (fun r0 h => k r0 h) := by kernel_rfl
noncomputable def g77 : Fun := w77 s77
theorem g77_ok : FunOk Tryz.prog 77 g77 := (fun_ok ty_ok mixed (gam_ok (J := J0) (tab_cons g103_ok (tab_nil fls_fun))) Tryz.func77 (fun args w => by simp)).imp fun xs h k e0 => by
  obtain ⟨a0, xs0, rfl, e1⟩ := arg_imp e0
  obtain ⟨rfl, e2⟩ := noArg_imp e1
  exact (s77_eq J0 g103 a0 h k).mpr e2
/-- maps.Clone[map[string]int,string,int] -/
noncomputable def s78G (J : Joins) (c103 : Fun) (a0 : AV) (h : H) (k : AV → H → Prop) : Prop :=
nilB 4 a0 fun b1 =>
br b1 (
k AV.nilm h) (
c103 [(AV.iface 53 a0)] h fun v2 h3 =>
op' (aAssert ty 53 false v2) fun v4 =>
k v4 h3)
noncomputable def s78 : AV → H → (AV → H → Prop) → Prop := s78G J0 g103
noncomputable def w78 (c : AV → H → (AV → H → Prop) → Prop) : Fun := fun xs h k => arg xs fun a0 xs => noArg xs <| c a0 h fun r0 h => k r0 h
theorem s78_eq (J : Joins) (c103 : Fun) (a0 : AV) (h : H) (k : AV → H → Prop) : denF ty (gam J [(103, c103)]) Tryz.f78 [a0] h k = s78G J c103 a0 h (fun r0 h => k r0 h) := by kernel_rfl
noncomputable def g78 : Fun := w78 s78
theorem g78_ok : FunOk Tryz.prog 78 g78 := (fun_ok ty_ok mixed (gam_ok (J := J0) (tab_cons g103_ok (tab_nil fls_fun))) Tryz.func78 (fun args w => by simp)).imp fun xs h k e0 => by
  obtain ⟨a0, xs0, rfl, e1⟩ := arg_imp e0
  obtain ⟨rfl, e2⟩ := noArg_imp e1
  exact (s78_eq J0 g103 a0 h k).mpr e2
/-- slices.Clone[[]byte,byte] -/
noncomputable def s49G (J : Joins) (a0 : AV) (h : H) (k : AV → H → Prop) : Prop :=
nilB 2 a0 fun b1 =>
br b1 (
k AV.nils h) (
op' (asRow true 5 []) fun k4 =>
pushK k4 h fun n2 h3 =>
apB (.slice 5) 5 (AV.slice n2 0 0 0 1 true) a0 h3 fun v5 h6 =>
k v5 h6)
noncomputable def s49 : AV → H → (AV → H → Prop) → Prop := s49G J0 
noncomputable def w49 (c : AV → H → (AV → H → Prop) → Prop) : Fun := fun xs h k => arg xs fun a0 xs => noArg xs <| c a0 h fun r0 h => k r0 h
theorem s49_eq (J : Joins) (a0 : AV) (h : H) (k : AV → H → Prop) : denF ty (gam J []) Tryz.f49 [a0] h k = s49G J  a0 h (fun r0 h => k r0 h) := by kernel_rfl
noncomputable def g49 : Fun := w49 s49
theorem g49_ok : FunOk Tryz.prog 49 g49 := (fun_ok ty_ok mixed (gam_ok (J := J0) (tab_nil fls_fun)) Tryz.func49 (fun args w => by simp)).imp fun xs h k e0 => by
  obtain ⟨a0, xs0, rfl, e1⟩ := arg_imp e0
  obtain ⟨rfl, e2⟩ := noArg_imp e1
  exact (s49_eq J0  a0 h k).mpr e2
/-- s49, of which less may be asked -/
def up49 : AV → H → (AV → H → Prop) → Prop := fun a0 h k => ∃ K : AV → H → Prop, s49 a0 h K ∧ ∀ r0 h', K r0 h' → k r0 h'
theorem up49_ok : FunOk Tryz.prog 49 (w49 up49) := g49_ok.up fun xs h k e0 => by
  obtain ⟨a0, xs0, rfl, e1⟩ := arg_imp e0
  obtain ⟨rfl, e2⟩ := noArg_imp e1
  obtain ⟨K, q1, q2⟩ := e2
  refine ⟨fun r h' => ∃ r0, r = r0 ∧ K r0 h', ?_, ?_⟩
  · have hK : (fun r0 h' => ∃ r0', (r0 : AV) = r0' ∧ K r0' h') = K := by funext r0 h'; apply propext; simp
    exact (congrArg (s49 a0 h) hK).mpr q1
  · rintro r h' ⟨r0, rfl, q3⟩; exact q2 _ _ q3
/-- (stagepost/vfs.tree).done -/
noncomputable def s79G (J : Joins) (c49 : AV → H → (AV → H → Prop) → Prop) (a0 : AV) (a1 : AV) (h : H) (k : H → Prop) : Prop :=
Go.Am.asAgg a0 fun l3 =>
pushK (.cells false 55 l3) h fun n1 h2 =>
Go.Am.asAgg a1 fun l6 =>
pushK (.cells false 109 l6) h2 fun n4 h5 =>
ldI .i64 (AV.ptr n4 0) h5 fun x7 =>
fB (eqI x7 (Int.ofNat 0)) fun b8 =>
br b8 (
ldV (AV.ptr n1 0) h5 fun v9 =>
ldI .i64 (AV.ptr n4 3) h5 fun x10 =>
ldV (AV.ptr n1 0) h5 fun v11 =>
ldI .i64 (AV.ptr n4 3) h5 fun x12 =>
op' (aLookup ty 3 60 false v11 (AV.int .i64 x12) h5) fun v13 =>
ldV (AV.ptr n4 4) h5 fun v14 =>
c49 v13 h5 fun v16 h15 =>
ck (readsSo (aLoad1 (AV.ptr n4 4) h15) v14) (
ck (readsSo (aLoad1 (AV.ptr n4 3) h15) (AV.int .i64 x10)) (
ck (readsSo (aLoad1 (AV.ptr n1 0) h15) v9) (
apB (.slice 5) 5 v16 v14 h15 fun v17 h18 =>
ck (readsSo (aLoad1 (AV.ptr n4 3) h18) (AV.int .i64 x10)) (
ck (readsSo (aLoad1 (AV.ptr n1 0) h18) v9) (
op' (mapBlk ty 3 v9 (AV.int .i64 x10) v17 h18) fun k19 =>
putK k19.1 k19.2 h18 fun h20 =>
k  h20)))))) (
fB (eqI x7 (Int.ofNat 1)) fun b21 =>
br b21 (
ldV (AV.ptr n1 1) h5 fun v22 =>
ldS (AV.ptr n4 1) h5 fun s23 =>
ldI .i64 (AV.ptr n4 3) h5 fun x24 =>
op' (mapBlk ty 9 v22 (AV.str s23) (AV.int .i64 x24) h5) fun k25 =>
putK k25.1 k25.2 h5 fun h26 =>
k  h26) (
fB (eqI x7 (Int.ofNat 2)) fun b27 =>
br b27 (
ldS (AV.ptr n4 1) h5 fun s28 =>
ldS (AV.ptr n4 2) h5 fun s29 =>
fB (Bool.not (Str.beq s28 s29)) fun b30 =>
br b30 (
ldV (AV.ptr n1 1) h5 fun v31 =>
ldS (AV.ptr n4 2) h5 fun s32 =>
ldV (AV.ptr n1 1) h5 fun v33 =>
ldS (AV.ptr n4 1) h5 fun s34 =>
op' (aLookup ty 9 3 false v33 (AV.str s34) h5) fun v35 =>
asI .i64 v35 fun x36 =>
op' (mapBlk ty 9 v31 (AV.str s32) (AV.int .i64 x36) h5) fun k37 =>
putK k37.1 k37.2 h5 fun h38 =>
ldV (AV.ptr n1 1) h38 fun v39 =>
ldS (AV.ptr n4 1) h38 fun s40 =>
delK (mapBlkD ty 9 v39 (AV.str s40) h38) h38 fun h42 =>
k  h42) (
k  h5)) (
fB (eqI x7 (Int.ofNat 3)) fun b43 =>
br b43 (
ldV (AV.ptr n1 1) h5 fun v44 =>
ldS (AV.ptr n4 1) h5 fun s45 =>
delK (mapBlkD ty 9 v44 (AV.str s45) h5) h5 fun h47 =>
k  h47) (
k  h5))))
noncomputable def s79 : AV → AV → H → (H → Prop) → Prop := s79G J0 s49
noncomputable def w79 (c : AV → AV → H → (H → Prop) → Prop) : Fun := fun xs h k => arg xs fun a0 xs => arg xs fun a1 xs => noArg xs <| c a0 a1 h fun  h => k (.tuple []) h
theorem s79_eq (J : Joins) (c49 : AV → H → (AV → H → Prop) → Prop) (a0 : AV) (a1 : AV) (h : H) (k : AV → H → Prop) : denF ty (gam J [(49, w49 c49)]) Tryz.f79 [a0, a1] h k = s79G J c49 a0 a1 h (fun  h => k (.tuple []) h) := by kernel_rfl
noncomputable def g79 : Fun := w79 s79
theorem g79_ok : FunOk Tryz.prog 79 g79 := (fun_ok ty_ok mixed (gam_ok (J := J0) (tab_cons g49_ok (tab_nil fls_fun))) Tryz.func79 (fun args w => by simp)).imp fun xs h k e0 => by
  obtain ⟨a0, xs0, rfl, e1⟩ := arg_imp e0
  obtain ⟨a1, xs1, rfl, e2⟩ := arg_imp e1
  obtain ⟨rfl, e3⟩ := noArg_imp e2
  exact (s79_eq J0 s49 a0 a1 h k).mpr e3
/-- s79, of which less may be asked -/
def up79 : AV → AV → H → (H → Prop) → Prop := fun a0 a1 h k => ∃ K : H → Prop, s79 a0 a1 h K ∧ ∀  h', K  h' → k  h'
theorem up79_ok : FunOk Tryz.prog 79 (w79 up79) := g79_ok.up fun xs h k e0 => by
  obtain ⟨a0, xs0, rfl, e1⟩ := arg_imp e0
  obtain ⟨a1, xs1, rfl, e2⟩ := arg_imp e1
  obtain ⟨rfl, e3⟩ := noArg_imp e2
  obtain ⟨K, q1, q2⟩ := e3
  refine ⟨fun r h' => r = .tuple [] ∧ K h', ?_, ?_⟩
  · have hK : (fun  h' => AV.tuple [] = .tuple [] ∧ K h') = K := by funext  h'; apply propext; simp
    exact (congrArg (s79 a0 a1 h) hK).mpr q1
  · rintro r h' ⟨rfl, q3⟩; exact q2 _ q3
/-- (*stagepost/vfs.FS).held -/
noncomputable def s43G (J : Joins) (c77 : AV → H → (AV → H → Prop) → Prop) (c78 : AV → H → (AV → H → Prop) → Prop) (c79 : AV → AV → H → (H → Prop) → Prop) (a0 : AV) (h : H) (k : AV → H → Prop) : Prop :=
pushK (.cells false 55 [(.nilm), (.nilm)]) h fun n1 h2 =>
okNil a0 (
faK 0 a0 fun p3 =>
faK 0 p3 fun p4 =>
ldV p4 h2 fun v5 =>
okNil a0 (
faK 0 a0 fun p6 =>
faK 1 p6 fun p7 =>
ldV p7 h2 fun v8 =>
pushK (.cells false 55 [(.nilm), (.nilm)]) h2 fun n9 h10 =>
c77 v5 h10 fun v12 h11 =>
ck (readsSo (aLoad1 p7 h11) v8) (
c78 v8 h11 fun v14 h13 =>
ck (isOne v12) (ck (isOne v14) (stN 2 (AV.ptr n9 0) [v12, v14] h13 fun h15 =>
okNil a0 (
faK 2 a0 fun p16 =>
ldV p16 h15 fun v17 =>
lenK v17 fun x18 =>
J.lp (α := AV × AV × AV × AV × AV × Unit) (fun r22 v19 d20 h21 =>
asI .i64 v19.2.2.2.2.1 fun x23 =>
asI .i64 v19.2.2.2.1 fun x24 =>
fB (ltI x23 x24) fun b25 =>
br b25 (
ixK 5 v19.2.2.1 v19.2.2.2.2.1 fun p26 =>
ldN 5 p26 h21 fun l27 =>
pushK (.cells false 109 [(.int .i64 0), (.str ⟨0, 0⟩), (.str ⟨0, 0⟩), (.int .i64 0), (.nils)]) h21 fun n28 h29 =>
stN 5 (AV.ptr n28 0) l27 h29 fun h30 =>
ldN 2 v19.2.1 h30 fun l31 =>
ldN 5 (AV.ptr n28 0) h30 fun l32 =>
c79 (AV.agg l31) (AV.agg l32) h30 fun  h33 =>
asI .i64 v19.2.2.2.2.1 fun x34 =>
fI (wrapF .i64 (Int.add x34 (Int.ofNat 1))) fun x35 =>
r22 (v19.1, v19.2.1, v19.2.2.1, v19.2.2.2.1, (AV.int .i64 x35), ()) d20 h33) (
ldN 2 v19.2.1 h21 fun l36 =>
stN 2 v19.1 l36 h21 fun h37 =>
leaveK (gam J [(77, w77 c77), (78, w78 c78), (79, w79 c79)]) d20 h37 fun h38 =>
ldN 2 v19.1 h38 fun l39 =>
k (AV.agg l39) h38)) ((AV.ptr n1 0), (AV.ptr n9 0), v17, (AV.int .i64 (Int.ofNat x18)), (AV.int .i64 (Int.ofNat 0)), ()) [] h15))))))
noncomputable def s43 : AV → H → (AV → H → Prop) → Prop := s43G J0 s77 s78 s79
noncomputable def w43 (c : AV → H → (AV → H → Prop) → Prop) : Fun := fun xs h k => arg xs fun a0 xs => noArg xs <| c a0 h fun r0 h => k r0 h
theorem s43_eq (J : Joins) (c77 : AV → H → (AV → H → Prop) → Prop) (c78 : AV → H → (AV → H → Prop) → Prop) (c79 : AV → AV → H → (H → Prop) → Prop) (a0 : AV) (h : H) (k : AV → H → Prop) : denF ty (gam J [(77, w77 c77), (78, w78 c78), (79, w79 c79)]) Tryz.f43 [a0] h k = s43G J c77 c78 c79 a0 h (fun r0 h => k r0 h) := by kernel_rfl
noncomputable def g43 : Fun := w43 s43
theorem g43_ok : FunOk Tryz.prog 43 g43 := (fun_ok ty_ok mixed (gam_ok (J := J0) (tab_cons g77_ok (tab_cons g78_ok (tab_cons g79_ok (tab_nil fls_fun))))) Tryz.func43 (fun args w => by simp)).imp fun xs h k e0 => by
  obtain ⟨a0, xs0, rfl, e1⟩ := arg_imp e0
  obtain ⟨rfl, e2⟩ := noArg_imp e1
  exact (s43_eq J0 s77 s78 s79 a0 h k).mpr e2
/-- s43, of which less may be asked -/
def up43 : AV → H → (AV → H → Prop) → Prop := fun a0 h k => ∃ K : AV → H → Prop, s43 a0 h K ∧ ∀ r0 h', K r0 h' → k r0 h'
theorem up43_ok : FunOk Tryz.prog 43 (w43 up43) := g43_ok.up fun xs h k e0 => by
  obtain ⟨a0, xs0, rfl, e1⟩ := arg_imp e0
  obtain ⟨rfl, e2⟩ := noArg_imp e1
  obtain ⟨K, q1, q2⟩ := e2
  refine ⟨fun r h' => ∃ r0, r = r0 ∧ K r0 h', ?_, ?_⟩
  · have hK : (fun r0 h' => ∃ r0', (r0 : AV) = r0' ∧ K r0' h') = K := by funext r0 h'; apply propext; simp
    exact (congrArg (s43 a0 h) hK).mpr q1
  · rintro r h' ⟨r0, rfl, q3⟩; exact q2 _ _ q3
/-- stagepost/vfs.named -/
noncomputable def s73G (J : Joins) (a0 : Str) (h : H) (k : Bool → H → Prop) : Prop :=
fB (Str.beq a0 (⟨0, 0⟩ : Str)) fun b1 =>
J.jn (fun v2 h3 =>
J.jn (fun v5 h6 =>
J.jn (fun v9 h10 =>
pickB (AV.bool b1) (AV.bool true) v9 fun b14 =>
br b14 (
k false h10) (
J.lp (α := AV × AV × AV × Unit) (fun r18 v15 d16 h17 =>
asI .i64 v15.2.2.1 fun x19 =>
asI .i64 v15.2.1 fun x20 =>
fB (ltI x19 x20) fun b21 =>
br b21 (
ixsK v15.1 v15.2.2.1 fun x22 =>
fB (ltI x22 (Int.ofNat 33)) fun b23 =>
J.jn (fun v24 h25 =>
J.jn (fun v27 h28 =>
J.jn (fun v30 h31 =>
J.jn (fun v34 h35 =>
pickB (AV.bool b23) (AV.bool true) v34 fun b39 =>
br b39 (
leaveK (gam J []) d16 h35 fun h40 =>
k false h40) (
asI .i64 v15.2.2.1 fun x41 =>
fI (wrapF .i64 (Int.add x41 (Int.ofNat 1))) fun x42 =>
r18 (v15.1, v15.2.1, (AV.int .i64 x42), ()) d16 h35)) fun j36 =>
br b23 (
j36 skipV h31) (
asI .u8 v30 fun x37 =>
fB (ltI (Int.ofNat 126) x37) fun b38 =>
j36 (AV.bool b38) h31)) fun j32 =>
br b23 (
j32 skipV h28) (
ixsK v24 v27 fun x33 =>
j32 (AV.int .u8 x33) h28)) fun j29 =>
br b23 (
j29 skipV h25) (
j29 v15.2.2.1 h25)) fun j26 =>
br b23 (
j26 skipV h17) (
j26 v15.1 h17)) (
leaveK (gam J []) d16 h17 fun h43 =>
k true h43)) ((AV.str a0), (AV.int .i64 (Int.ofNat a0.len)), (AV.int .i64 (Int.ofNat 0)), ()) [] h10)) fun j11 =>
br b1 (
j11 skipV h6) (
asI .i64 v5 fun x12 =>
fB (ltI (Int.ofNat 32) x12) fun b13 =>
j11 (AV.bool b13) h6)) fun j7 =>
br b1 (
j7 skipV h3) (
asS v2 fun s8 =>
j7 (AV.int .i64 (Int.ofNat s8.len)) h3)) fun j4 =>
br b1 (
j4 skipV h) (
j4 (AV.str a0) h)
noncomputable def s73 : Str → H → (Bool → H → Prop) → Prop := s73G J0 
noncomputable def w73 (c : Str → H → (Bool → H → Prop) → Prop) : Fun := fun xs h k => arg xs fun a0 xs => noArg xs <| asS a0 fun a0 => c a0 h fun r0 h => k (.bool r0) h
theorem s73_eq (J : Joins) (a0 : Str) (h : H) (k : AV → H → Prop) : denF ty (gam J []) Tryz.f73 [(.str a0)] h k = s73G J  a0 h (fun r0 h => k (.bool r0) h) := by kernel_rfl
noncomputable def g73 : Fun := w73 s73
theorem g73_ok : FunOk Tryz.prog 73 g73 := (fun_ok ty_ok mixed (gam_ok (J := J0) (tab_nil fls_fun)) Tryz.func73 (fun args w => by simp)).imp fun xs h k e0 => by
  obtain ⟨a0, xs0, rfl, e1⟩ := arg_imp e0
  obtain ⟨rfl, e2⟩ := noArg_imp e1
  obtain ⟨a0, rfl, e3⟩ := asS_iff.1 e2
  exact (s73_eq J0  a0 h k).mpr e3
/-- (*stagepost/vfs.FS).asked -/
noncomputable def s40G (J : Joins) (c73 : Str → H → (Bool → H → Prop) → Prop) (a0 : AV) (a1 : AV) (h : H) (k : Int → H → Prop) : Prop :=
nilB 0 a0 fun b1 =>
J.jn (fun v2 h3 =>
J.jn (fun v5 h6 =>
J.jn (fun v8 h9 =>
J.jn (fun v12 h13 =>
J.jn (fun v16 h17 =>
pickB (AV.bool b1) (AV.bool true) v16 fun b21 =>
br b21 (
k (Int.ofNat 1) h17) (
okNil a0 (
faK 5 a0 fun p22 =>
ldB p22 h17 fun b23 =>
br b23 (
k (Int.ofNat 7) h17) (
lenK a1 fun x24 =>
J.lp (α := AV × AV × AV × Unit) (fun r28 v25 d26 h27 =>
asI .i64 v25.2.2.1 fun x29 =>
asI .i64 v25.2.1 fun x30 =>
fB (ltI x29 x30) fun b31 =>
br b31 (
ixK 1 v25.1 v25.2.2.1 fun p32 =>
ldS p32 h27 fun s33 =>
c73 s33 h27 fun b35 h34 =>
fB (Bool.not b35) fun b36 =>
br b36 (
leaveK (gam J [(73, w73 c73)]) d26 h34 fun h37 =>
k (Int.ofNat 2) h37) (
asI .i64 v25.2.2.1 fun x38 =>
fI (wrapF .i64 (Int.add x38 (Int.ofNat 1))) fun x39 =>
r28 (v25.1, v25.2.1, (AV.int .i64 x39), ()) d26 h34)) (
leaveK (gam J [(73, w73 c73)]) d26 h27 fun h40 =>
k (Int.ofNat 0) h40)) (a1, (AV.int .i64 (Int.ofNat x24)), (AV.int .i64 (Int.ofNat 0)), ()) [] h17)))) fun j18 =>
br b1 (
j18 skipV h13) (
asB v12 fun b19 =>
fB (Bool.not b19) fun b20 =>
j18 (AV.bool b20) h13)) fun j14 =>
br b1 (
j14 skipV h9) (
ldB v8 h9 fun b15 =>
j14 (AV.bool b15) h9)) fun j10 =>
br b1 (
j10 skipV h6) (
faK 9 v5 fun p11 =>
j10 p11 h6)) fun j7 =>
br b1 (
j7 skipV h3) (
okNil v2 (
j7 v2 h3))) fun j4 =>
br b1 (
j4 skipV h) (
j4 a0 h)
noncomputable def s40 : AV → AV → H → (Int → H → Prop) → Prop := s40G J0 s73
noncomputable def w40 (c : AV → AV → H → (Int → H → Prop) → Prop) : Fun := fun xs h k => arg xs fun a0 xs => arg xs fun a1 xs => noArg xs <| c a0 a1 h fun r0 h => k (.int .i64 r0) h
theorem s40_eq (J : Joins) (c73 : Str → H → (Bool → H → Prop) → Prop) (a0 : AV) (a1 : AV) (h : H) (k : AV → H → Prop) : denF ty (gam J [(73, w73 c73)]) Tryz.f40 [a0, a1] h k = s40G J c73 a0 a1 h (fun r0 h => k (.int .i64 r0) h) := by kernel_rfl
noncomputable def g40 : Fun := w40 s40
theorem g40_ok : FunOk Tryz.prog 40 g40 := (fun_ok ty_ok mixed (gam_ok (J := J0) (tab_cons g73_ok (tab_nil fls_fun))) Tryz.func40 (fun args w => by simp)).imp fun xs h k e0 => by
  obtain ⟨a0, xs0, rfl, e1⟩ := arg_imp e0
  obtain ⟨a1, xs1, rfl, e2⟩ := arg_imp e1
  obtain ⟨rfl, e3⟩ := noArg_imp e2
  exact (s40_eq J0 s73 a0 a1 h k).mpr e3
/-- s40, of which less may be asked -/
def up40 : AV → AV → H → (Int → H → Prop) → Prop := fun a0 a1 h k => ∃ K : Int → H → Prop, s40 a0 a1 h K ∧ ∀ r0 h', K r0 h' → k r0 h'
theorem up40_ok : FunOk Tryz.prog 40 (w40 up40) := g40_ok.up fun xs h k e0 => by
  obtain ⟨a0, xs0, rfl, e1⟩ := arg_imp e0
  obtain ⟨a1, xs1, rfl, e2⟩ := arg_imp e1
  obtain ⟨rfl, e3⟩ := noArg_imp e2
  obtain ⟨K, q1, q2⟩ := e3
  refine ⟨fun r h' => ∃ r0, r = (.int .i64 r0) ∧ K r0 h', ?_, ?_⟩
  · have hK : (fun r0 h' => ∃ r0', ((.int .i64 r0) : AV) = (.int .i64 r0') ∧ K r0' h') = K := by funext r0 h'; apply propext; simp
    exact (congrArg (s40 a0 a1 h) hK).mpr q1
  · rintro r h' ⟨r0, rfl, q3⟩; exact q2 _ _ q3
/-- (*stagepost/vfs.FS).file -/
noncomputable def s48G (J : Joins) (c40 : AV → AV → H → (Int → H → Prop) → Prop) (c43 : AV → H → (AV → H → Prop) → Prop) (a0 : AV) (a1 : Str) (h : H) (k : Int → Int → H → Prop) : Prop :=
pushK (.cells false 9 [(AV.str a1)]) h fun n1 h2 =>
c40 a0 (AV.slice n1 0 1 1 1 true) h2 fun x4 h3 =>
fB (Bool.not (eqI x4 (Int.ofNat 0))) fun b5 =>
br b5 (
k (Int.ofNat 0) x4 h3) (
c43 a0 h3 fun v7 h6 =>
Go.Am.asAgg v7 fun l8 =>
op' (lgetO l8 1) fun v9 =>
op' (aLookup ty 9 3 true v9 (AV.str a1) h6) fun v10 =>
asTup v10 fun l11 =>
op' (lgetO l11 0) fun v12 =>
asI .i64 v12 fun x13 =>
asTup v10 fun l14 =>
op' (lgetO l14 1) fun v15 =>
asB v15 fun b16 =>
fB (Bool.not b16) fun b17 =>
br b17 (
k (Int.ofNat 0) (Int.ofNat 4) h6) (
k x13 (Int.ofNat 0) h6))
noncomputable def s48 : AV → Str → H → (Int → Int → H → Prop) → Prop := s48G J0 s40 s43
noncomputable def w48 (c : AV → Str → H → (Int → Int → H → Prop) → Prop) : Fun := fun xs h k => arg xs fun a0 xs => arg xs fun a1 xs => noArg xs <| asS a1 fun a1 => c a0 a1 h fun r0 r1 h => k (.tuple [(.int .i64 r0), (.int .i64 r1)]) h
theorem s48_eq (J : Joins) (c40 : AV → AV → H → (Int → H → Prop) → Prop) (c43 : AV → H → (AV → H → Prop) → Prop) (a0 : AV) (a1 : Str) (h : H) (k : AV → H → Prop) : denF ty (gam J [(40, w40 c40), (43, w43 c43)]) Tryz.f48 [a0, (.str a1)] h k = s48G J c40 c43 a0 a1 h (fun r0 r1 h => k (.tuple [(.int .i64 r0), (.int .i64 r1)]) h) := by kernel_rfl
noncomputable def g48 : Fun := w48 s48
theorem g48_ok : FunOk Tryz.prog 48 g48 := (fun_ok ty_ok mixed (gam_ok (J := J0) (tab_cons g40_ok (tab_cons g43_ok (tab_nil fls_fun)))) Tryz.func48 (fun args w => by simp)).imp fun xs h k e0 => by
  obtain ⟨a0, xs0, rfl, e1⟩ := arg_imp e0
  obtain ⟨a1, xs1, rfl, e2⟩ := arg_imp e1
  obtain ⟨rfl, e3⟩ := noArg_imp e2
  obtain ⟨a1, rfl, e4⟩ := asS_iff.1 e3
  exact (s48_eq J0 s40 s43 a0 a1 h k).mpr e4
/-- (*stagepost/vfs.FS).Read -/
noncomputable def s18G (J : Joins) (c43 : AV → H → (AV → H → Prop) → Prop) (c48 : AV → Str → H → (Int → Int → H → Prop) → Prop) (c49 : AV → H → (AV → H → Prop) → Prop) (a0 : AV) (a1 : Str) (h : H) (k : AV → Int → H → Prop) : Prop :=
c48 a0 a1 h fun x2 x3 h1 =>
fB (Bool.not (eqI x3 (Int.ofNat 0))) fun b4 =>
br b4 (
k AV.nils x3 h1) (
c43 a0 h1 fun v6 h5 =>
Go.Am.asAgg v6 fun l7 =>
op' (lgetO l7 0) fun v8 =>
op' (aLookup ty 3 60 false v8 (AV.int .i64 x2) h5) fun v9 =>
c49 v9 h5 fun v11 h10 =>
k v11 (Int.ofNat 0) h10)
noncomputable def s18 : AV → Str → H → (AV → Int → H → Prop) → Prop := s18G J0 s43 s48 s49
noncomputable def w18 (c : AV → Str → H → (AV → Int → H → Prop) → Prop) : Fun := fun xs h k => arg xs fun a0 xs => arg xs fun a1 xs => noArg xs <| asS a1 fun a1 => c a0 a1 h fun r0 r1 h => k (.tuple [r0, (.int .i64 r1)]) h
theorem s18_eq (J : Joins) (c43 : AV → H → (AV → H → Prop) → Prop) (c48 : AV → Str → H → (Int → Int → H → Prop) → Prop) (c49 : AV → H → (AV → H → Prop) → Prop) (a0 : AV) (a1 : Str) (h : H) (k : AV → H → Prop) : denF ty (gam J [(43, w43 c43), (48, w48 c48), (49, w49 c49)]) Tryz.f18 [a0, (.str a1)] h k = s18G J c43 c48 c49 a0 a1 h (fun r0 r1 h => k (.tuple [r0, (.int .i64 r1)]) h) := by kernel_rfl
noncomputable def g18 : Fun := w18 s18
theorem g18_ok : FunOk Tryz.prog 18 g18 := (fun_ok ty_ok mixed (gam_ok (J := J0) (tab_cons g43_ok (tab_cons g48_ok (tab_cons g49_ok (tab_nil fls_fun))))) Tryz.func18 (fun args w => by simp)).imp fun xs h k e0 => by
  obtain ⟨a0, xs0, rfl, e1⟩ := arg_imp e0
  obtain ⟨a1, xs1, rfl, e2⟩ := arg_imp e1
  obtain ⟨rfl, e3⟩ := noArg_imp e2
  obtain ⟨a1, rfl, e4⟩ := asS_iff.1 e3
  exact (s18_eq J0 s43 s48 s49 a0 a1 h k).mpr e4
/-- stagepost/manifest.numbers -/
noncomputable def s44G (J : Joins) (a0 : Int) (a1 : Int) (a2 : Int) (h : H) (k : Bool → H → Prop) : Prop :=
fB (Bool.not (ltI a0 (Int.ofNat 1))) fun b1 =>
J.jn (fun v2 h3 =>
J.jn (fun v5 h6 =>
pickB (AV.bool b1) v5 (AV.bool false) fun b10 =>
J.jn (fun v11 h12 =>
J.jn (fun v14 h15 =>
pickB (AV.bool b10) v14 (AV.bool false) fun b19 =>
J.jn (fun v20 h21 =>
J.jn (fun v23 h24 =>
pickB (AV.bool b19) v23 (AV.bool false) fun b28 =>
J.jn (fun v29 h30 =>
J.jn (fun v32 h33 =>
pickB (AV.bool b28) v32 (AV.bool false) fun b37 =>
J.jn (fun v38 h39 =>
J.jn (fun v41 h42 =>
pickB (AV.bool b37) v41 (AV.bool false) fun b46 =>
k b46 h42) fun j43 =>
br b37 (
asI .i64 v38 fun x44 =>
fB (Bool.not (ltI (Int.ofNat 999999) x44)) fun b45 =>
j43 (AV.bool b45) h39) (
j43 skipV h39)) fun j40 =>
br b37 (
j40 (AV.int .i64 a2) h33) (
j40 skipV h33)) fun j34 =>
br b28 (
asI .i64 v29 fun x35 =>
fB (Bool.not (ltI x35 (Int.ofNat 1))) fun b36 =>
j34 (AV.bool b36) h30) (
j34 skipV h30)) fun j31 =>
br b28 (
j31 (AV.int .i64 a2) h24) (
j31 skipV h24)) fun j25 =>
br b19 (
asI .i64 v20 fun x26 =>
fB (Bool.not (ltI (Int.ofNat 1073741824) x26)) fun b27 =>
j25 (AV.bool b27) h21) (
j25 skipV h21)) fun j22 =>
br b19 (
j22 (AV.int .i64 a1) h15) (
j22 skipV h15)) fun j16 =>
br b10 (
asI .i64 v11 fun x17 =>
fB (Bool.not (ltI x17 (Int.ofNat 0))) fun b18 =>
j16 (AV.bool b18) h12) (
j16 skipV h12)) fun j13 =>
br b10 (
j13 (AV.int .i64 a1) h6) (
j13 skipV h6)) fun j7 =>
br b1 (
asI .i64 v2 fun x8 =>
fB (Bool.not (ltI (Int.ofNat 999999) x8)) fun b9 =>
j7 (AV.bool b9) h3) (
j7 skipV h3)) fun j4 =>
br b1 (
j4 (AV.int .i64 a0) h) (
j4 skipV h)
noncomputable def s44 : Int → Int → Int → H → (Bool → H → Prop) → Prop := s44G J0 
noncomputable def w44 (c : Int → Int → Int → H → (Bool → H → Prop) → Prop) : Fun := fun xs h k => arg xs fun a0 xs => arg xs fun a1 xs => arg xs fun a2 xs => noArg xs <| asI .i64 a0 fun a0 => asI .i64 a1 fun a1 => asI .i64 a2 fun a2 => c a0 a1 a2 h fun r0 h => k (.bool r0) h
theorem s44_eq (J : Joins) (a0 : Int) (a1 : Int) (a2 : Int) (h : H) (k : AV → H → Prop) : denF ty (gam J []) Tryz.f44 [(.int .i64 a0), (.int .i64 a1), (.int .i64 a2)] h k = s44G J  a0 a1 a2 h (fun r0 h => k (.bool r0) h) := by kernel_rfl
noncomputable def g44 : Fun := w44 s44
theorem g44_ok : FunOk Tryz.prog 44 g44 := (fun_ok ty_ok mixed (gam_ok (J := J0) (tab_nil fls_fun)) Tryz.func44 (fun args w => by simp)).imp fun xs h k e0 => by
  obtain ⟨a0, xs0, rfl, e1⟩ := arg_imp e0
  obtain ⟨a1, xs1, rfl, e2⟩ := arg_imp e1
  obtain ⟨a2, xs2, rfl, e3⟩ := arg_imp e2
  obtain ⟨rfl, e4⟩ := noArg_imp e3
  obtain ⟨a0, rfl, e5⟩ := asI_iff.1 e4
  obtain ⟨a1, rfl, e6⟩ := asI_iff.1 e5
  obtain ⟨a2, rfl, e7⟩ := asI_iff.1 e6
  exact (s44_eq J0  a0 a1 a2 h k).mpr e7
/-- cmp.isNaN[int] -/
noncomputable def s104G (J : Joins) (a0 : Int) (h : H) (k : Bool → H → Prop) : Prop :=
fB (Bool.not (eqI a0 a0)) fun b1 =>
k b1 h
noncomputable def s104 : Int → H → (Bool → H → Prop) → Prop := s104G J0 
noncomputable def w104 (c : Int → H → (Bool → H → Prop) → Prop) : Fun := fun xs h k => arg xs fun a0 xs => noArg xs <| asI .i64 a0 fun a0 => c a0 h fun r0 h => k (.bool r0) h
theorem s104_eq (J : Joins) (a0 : Int) (h : H) (k : AV → H → Prop) : denF ty (gam J []) Tryz.f104 [(.int .i64 a0)] h k = s104G J  a0 h (fun r0 h => k (.bool r0) h) := by kernel_rfl
noncomputable def g104 : Fun := w104 s104
theorem g104_ok : FunOk Tryz.prog 104 g104 := (fun_ok ty_ok mixed (gam_ok (J := J0) (tab_nil fls_fun)) Tryz.func104 (fun args w => by simp)).imp fun xs h k e0 => by
  obtain ⟨a0, xs0, rfl, e1⟩ := arg_imp e0
  obtain ⟨rfl, e2⟩ := noArg_imp e1
  obtain ⟨a0, rfl, e3⟩ := asI_iff.1 e2
  exact (s104_eq J0  a0 h k).mpr e3
/-- cmp.Compare[int] -/
noncomputable def s80G (J : Joins) (c104 : Int → H → (Bool → H → Prop) → Prop) (a0 : Int) (a1 : Int) (h : H) (k : Int → H → Prop) : Prop :=
c104 a0 h fun b2 h1 =>
c104 a1 h1 fun b4 h3 =>
br b2 (
br b4 (
k (Int.ofNat 0) h3) (
k (Int.negSucc 0) h3)) (
br b4 (
k (Int.ofNat 1) h3) (
fB (ltI a0 a1) fun b5 =>
br b5 (
k (Int.negSucc 0) h3) (
fB (ltI a1 a0) fun b6 =>
br b6 (
k (Int.ofNat 1) h3) (
k (Int.ofNat 0) h3))))
noncomputable def s80 : Int → Int → H → (Int → H → Prop) → Prop := s80G J0 s104
noncomputable def w80 (c : Int → Int → H → (Int → H → Prop) → Prop) : Fun := fun xs h k => arg xs fun a0 xs => arg xs fun a1 xs => noArg xs <| asI .i64 a0 fun a0 => asI .i64 a1 fun a1 => c a0 a1 h fun r0 h => k (.int .i64 r0) h
theorem s80_eq (J : Joins) (c104 : Int → H → (Bool → H → Prop) → Prop) (a0 : Int) (a1 : Int) (h : H) (k : AV → H → Prop) : denF ty (gam J [(104, w104 c104)]) Tryz.f80 [(.int .i64 a0), (.int .i64 a1)] h k = s80G J c104 a0 a1 h (fun r0 h => k (.int .i64 r0) h) := by kernel_rfl
noncomputable def g80 : Fun := w80 s80
theorem g80_ok : FunOk Tryz.prog 80 g80 := (fun_ok ty_ok mixed (gam_ok (J := J0) (tab_cons g104_ok (tab_nil fls_fun))) Tryz.func80 (fun args w => by simp)).imp fun xs h k e0 => by
  obtain ⟨a0, xs0, rfl, e1⟩ := arg_imp e0
  obtain ⟨a1, xs1, rfl, e2⟩ := arg_imp e1
  obtain ⟨rfl, e3⟩ := noArg_imp e2
  obtain ⟨a0, rfl, e4⟩ := asI_iff.1 e3
  obtain ⟨a1, rfl, e5⟩ := asI_iff.1 e4
  exact (s80_eq J0 s104 a0 a1 h k).mpr e5
/-- cmp.Or[int] -/
noncomputable def s81G (J : Joins) (a0 : AV) (h : H) (k : Int → H → Prop) : Prop :=
lenK a0 fun x1 =>
J.lp (α := AV × AV × AV × AV × Unit) (fun r5 v2 d3 h4 =>
asI .i64 v2.2.2.2.1 fun x6 =>
asI .i64 v2.2.2.1 fun x7 =>
fB (ltI x6 x7) fun b8 =>
br b8 (
ixK 1 v2.2.1 v2.2.2.2.1 fun p9 =>
ldI .i64 p9 h4 fun x10 =>
asI .i64 v2.1 fun x11 =>
fB (Bool.not (eqI x10 x11)) fun b12 =>
br b12 (
leaveK (gam J []) d3 h4 fun h13 =>
k x10 h13) (
asI .i64 v2.2.2.2.1 fun x14 =>
fI (wrapF .i64 (Int.add x14 (Int.ofNat 1))) fun x15 =>
r5 (v2.1, v2.2.1, v2.2.2.1, (AV.int .i64 x15), ()) d3 h4)) (
leaveK (gam J []) d3 h4 fun h16 =>
asI .i64 v2.1 fun x17 =>
k x17 h16)) ((AV.int .i64 (Int.ofNat 0)), a0, (AV.int .i64 (Int.ofNat x1)), (AV.int .i64 (Int.ofNat 0)), ()) [] h
noncomputable def s81 : AV → H → (Int → H → Prop) → Prop := s81G J0 
noncomputable def w81 (c : AV → H → (Int → H → Prop) → Prop) : Fun := fun xs h k => arg xs fun a0 xs => noArg xs <| c a0 h fun r0 h => k (.int .i64 r0) h
theorem s81_eq (J : Joins) (a0 : AV) (h : H) (k : AV → H → Prop) : denF ty (gam J []) Tryz.f81 [a0] h k = s81G J  a0 h (fun r0 h => k (.int .i64 r0) h) := by kernel_rfl
noncomputable def g81 : Fun := w81 s81
theorem g81_ok : FunOk Tryz.prog 81 g81 := (fun_ok ty_ok mixed (gam_ok (J := J0) (tab_nil fls_fun)) Tryz.func81 (fun args w => by simp)).imp fun xs h k e0 => by
  obtain ⟨a0, xs0, rfl, e1⟩ := arg_imp e0
  obtain ⟨rfl, e2⟩ := noArg_imp e1
  exact (s81_eq J0  a0 h k).mpr e2
/-- cmp.isNaN[string] -/
noncomputable def s105G (J : Joins) (a0 : Str) (h : H) (k : Bool → H → Prop) : Prop :=
fB (Bool.not (Str.beq a0 a0)) fun b1 =>
k b1 h
noncomputable def s105 : Str → H → (Bool → H → Prop) → Prop := s105G J0 
noncomputable def w105 (c : Str → H → (Bool → H → Prop) → Prop) : Fun := fun xs h k => arg xs fun a0 xs => noArg xs <| asS a0 fun a0 => c a0 h fun r0 h => k (.bool r0) h
theorem s105_eq (J : Joins) (a0 : Str) (h : H) (k : AV → H → Prop) : denF ty (gam J []) Tryz.f105 [(.str a0)] h k = s105G J  a0 h (fun r0 h => k (.bool r0) h) := by kernel_rfl
noncomputable def g105 : Fun := w105 s105
theorem g105_ok : FunOk Tryz.prog 105 g105 := (fun_ok ty_ok mixed (gam_ok (J := J0) (tab_nil fls_fun)) Tryz.func105 (fun args w => by simp)).imp fun xs h k e0 => by
  obtain ⟨a0, xs0, rfl, e1⟩ := arg_imp e0
  obtain ⟨rfl, e2⟩ := noArg_imp e1
  obtain ⟨a0, rfl, e3⟩ := asS_iff.1 e2
  exact (s105_eq J0  a0 h k).mpr e3
/-- cmp.Compare[string] -/
noncomputable def s82G (J : Joins) (c105 : Str → H → (Bool → H → Prop) → Prop) (a0 : Str) (a1 : Str) (h : H) (k : Int → H → Prop) : Prop :=
c105 a0 h fun b2 h1 =>
c105 a1 h1 fun b4 h3 =>
br b2 (
br b4 (
k (Int.ofNat 0) h3) (
k (Int.negSucc 0) h3)) (
br b4 (
k (Int.ofNat 1) h3) (
fB (Str.lt a0 a1) fun b5 =>
br b5 (
k (Int.negSucc 0) h3) (
fB (Str.lt a1 a0) fun b6 =>
br b6 (
k (Int.ofNat 1) h3) (
k (Int.ofNat 0) h3))))
noncomputable def s82 : Str → Str → H → (Int → H → Prop) → Prop := s82G J0 s105
noncomputable def w82 (c : Str → Str → H → (Int → H → Prop) → Prop) : Fun := fun xs h k => arg xs fun a0 xs => arg xs fun a1 xs => noArg xs <| asS a0 fun a0 => asS a1 fun a1 => c a0 a1 h fun r0 h => k (.int .i64 r0) h
theorem s82_eq (J : Joins) (c105 : Str → H → (Bool → H → Prop) → Prop) (a0 : Str) (a1 : Str) (h : H) (k : AV → H → Prop) : denF ty (gam J [(105, w105 c105)]) Tryz.f82 [(.str a0), (.str a1)] h k = s82G J c105 a0 a1 h (fun r0 h => k (.int .i64 r0) h) := by kernel_rfl
noncomputable def g82 : Fun := w82 s82
theorem g82_ok : FunOk Tryz.prog 82 g82 := (fun_ok ty_ok mixed (gam_ok (J := J0) (tab_cons g105_ok (tab_nil fls_fun))) Tryz.func82 (fun args w => by simp)).imp fun xs h k e0 => by
  obtain ⟨a0, xs0, rfl, e1⟩ := arg_imp e0
  obtain ⟨a1, xs1, rfl, e2⟩ := arg_imp e1
  obtain ⟨rfl, e3⟩ := noArg_imp e2
  obtain ⟨a0, rfl, e4⟩ := asS_iff.1 e3
  obtain ⟨a1, rfl, e5⟩ := asS_iff.1 e4
  exact (s82_eq J0 s105 a0 a1 h k).mpr e5
/-- stagepost/manifest.order -/
noncomputable def s46G (J : Joins) (c80 : Int → Int → H → (Int → H → Prop) → Prop) (c81 : AV → H → (Int → H → Prop) → Prop) (c82 : Str → Str → H → (Int → H → Prop) → Prop) (a0 : AV) (a1 : AV) (h : H) (k : Int → H → Prop) : Prop :=
Go.Am.asAgg a0 fun l3 =>
pushK (.cells false 45 l3) h fun n1 h2 =>
Go.Am.asAgg a1 fun l6 =>
pushK (.cells false 45 l6) h2 fun n4 h5 =>
ldI .i64 (AV.ptr n1 1) h5 fun x7 =>
fB (eqI x7 (Int.ofNat 0)) fun b8 =>
J.jn (fun v9 h10 =>
J.jn (fun v12 h13 =>
J.jn (fun v16 h17 =>
pickB (AV.bool b8) v16 (AV.bool false) fun b21 =>
br b21 (
ldI .i64 (AV.ptr n4 0) h17 fun x22 =>
ldI .i64 (AV.ptr n1 0) h17 fun x23 =>
c80 x22 x23 h17 fun x25 h24 =>
k x25 h24) (
ldI .i64 (AV.ptr n1 1) h17 fun x26 =>
ldI .i64 (AV.ptr n4 1) h17 fun x27 =>
ldS (AV.ptr n1 3) h17 fun s28 =>
ldS (AV.ptr n4 3) h17 fun s29 =>
c80 x26 x27 h17 fun x31 h30 =>
ck (readsSo (aLoad1 (AV.ptr n4 3) h30) (AV.str s29)) (
ck (readsSo (aLoad1 (AV.ptr n1 3) h30) (AV.str s28)) (
c82 s28 s29 h30 fun x33 h32 =>
pushK (.cells false 3 [(AV.int .i64 x31), (AV.int .i64 x33)]) h32 fun n34 h35 =>
c81 (AV.slice n34 0 2 2 1 true) h35 fun x37 h36 =>
k x37 h36)))) fun j18 =>
br b8 (
asI .i64 v12 fun x19 =>
fB (eqI x19 (Int.ofNat 0)) fun b20 =>
j18 (AV.bool b20) h13) (
j18 skipV h13)) fun j14 =>
br b8 (
ldI .i64 v9 h10 fun x15 =>
j14 (AV.int .i64 x15) h10) (
j14 skipV h10)) fun j11 =>
br b8 (
j11 (AV.ptr n4 1) h5) (
j11 skipV h5)
noncomputable def s46 : AV → AV → H → (Int → H → Prop) → Prop := s46G J0 s80 s81 s82
noncomputable def w46 (c : AV → AV → H → (Int → H → Prop) → Prop) : Fun := fun xs h k => arg xs fun a0 xs => arg xs fun a1 xs => noArg xs <| c a0 a1 h fun r0 h => k (.int .i64 r0) h
theorem s46_eq (J : Joins) (c80 : Int → Int → H → (Int → H → Prop) → Prop) (c81 : AV → H → (Int → H → Prop) → Prop) (c82 : Str → Str → H → (Int → H → Prop) → Prop) (a0 : AV) (a1 : AV) (h : H) (k : AV → H → Prop) : denF ty (gam J [(80, w80 c80), (81, w81 c81), (82, w82 c82)]) Tryz.f46 [a0, a1] h k = s46G J c80 c81 c82 a0 a1 h (fun r0 h => k (.int .i64 r0) h) := by kernel_rfl
noncomputable def g46 : Fun := w46 s46
theorem g46_ok : FunOk Tryz.prog 46 g46 := (fun_ok ty_ok mixed (gam_ok (J := J0) (tab_cons g80_ok (tab_cons g81_ok (tab_cons g82_ok (tab_nil fls_fun))))) Tryz.func46 (fun args w => by simp)).imp fun xs h k e0 => by
  obtain ⟨a0, xs0, rfl, e1⟩ := arg_imp e0
  obtain ⟨a1, xs1, rfl, e2⟩ := arg_imp e1
  obtain ⟨rfl, e3⟩ := noArg_imp e2
  exact (s46_eq J0 s80 s81 s82 a0 a1 h k).mpr e3
/-- slices.IsSortedFunc[[]stagepost/api.Meta,stagepost/api.Meta] -/
noncomputable def s45G (J : Joins) (c46 : AV → AV → H → (Int → H → Prop) → Prop) (a0 : AV) (a1 : AV) (h : H) (k : Bool → H → Prop) : Prop :=
lenK a0 fun x1 =>
fI (wrapF .i64 (Int.sub (Int.ofNat x1) (Int.ofNat 1))) fun x2 =>
J.lp (α := AV × AV × AV × Unit) (fun r6 v3 d4 h5 =>
asI .i64 v3.2.2.1 fun x7 =>
fB (ltI (Int.ofNat 0) x7) fun b8 =>
br b8 (
ixK 5 v3.1 v3.2.2.1 fun p9 =>
ldN 5 p9 h5 fun l10 =>
asI .i64 v3.2.2.1 fun x11 =>
fI (wrapF .i64 (Int.sub x11 (Int.ofNat 1))) fun x12 =>
ixK 5 v3.1 (AV.int .i64 x12) fun p13 =>
ldN 5 p13 h5 fun l14 =>
callK (gam J [(46, w46 c46)]) v3.2.1 [(AV.agg l10), (AV.agg l14)] h5 fun v15 h16 =>
asI .i64 v15 fun x17 =>
fB (ltI x17 (Int.ofNat 0)) fun b18 =>
br b18 (
leaveK (gam J [(46, w46 c46)]) d4 h16 fun h19 =>
k false h19) (
asI .i64 v3.2.2.1 fun x20 =>
fI (wrapF .i64 (Int.sub x20 (Int.ofNat 1))) fun x21 =>
r6 (v3.1, v3.2.1, (AV.int .i64 x21), ()) d4 h16)) (
leaveK (gam J [(46, w46 c46)]) d4 h5 fun h22 =>
k true h22)) (a0, a1, (AV.int .i64 x2), ()) [] h
noncomputable def s45 : AV → AV → H → (Bool → H → Prop) → Prop := s45G J0 s46
noncomputable def w45 (c : AV → AV → H → (Bool → H → Prop) → Prop) : Fun := fun xs h k => arg xs fun a0 xs => arg xs fun a1 xs => noArg xs <| c a0 a1 h fun r0 h => k (.bool r0) h
theorem s45_eq (J : Joins) (c46 : AV → AV → H → (Int → H → Prop) → Prop) (a0 : AV) (a1 : AV) (h : H) (k : AV → H → Prop) : denF ty (gam J [(46, w46 c46)]) Tryz.f45 [a0, a1] h k = s45G J c46 a0 a1 h (fun r0 h => k (.bool r0) h) := by kernel_rfl
noncomputable def g45 : Fun := w45 s45
theorem g45_ok : FunOk Tryz.prog 45 g45 := (fun_ok ty_ok mixed (gam_ok (J := J0) (tab_cons g46_ok (tab_nil fls_fun))) Tryz.func45 (fun args w => by simp)).imp fun xs h k e0 => by
  obtain ⟨a0, xs0, rfl, e1⟩ := arg_imp e0
  obtain ⟨a1, xs1, rfl, e2⟩ := arg_imp e1
  obtain ⟨rfl, e3⟩ := noArg_imp e2
  exact (s45_eq J0 s46 a0 a1 h k).mpr e3
/-- stagepost/manifest.meta -/
noncomputable def s47G (J : Joins) (a0 : AV) (h : H) (k : Bool → H → Prop) : Prop :=
Go.Am.asAgg a0 fun l3 =>
pushK (.cells false 45 l3) h fun n1 h2 =>
ldS (AV.ptr n1 3) h2 fun s4 =>
fB (Bool.not (Str.beq s4 (⟨0, 0⟩ : Str))) fun b5 =>
J.jn (fun v6 h7 =>
J.jn (fun v9 h10 =>
J.jn (fun v13 h14 =>
J.jn (fun v17 h18 =>
pickB (AV.bool b5) v17 (AV.bool false) fun b22 =>
J.jn (fun v23 h24 =>
J.jn (fun v26 h27 =>
J.jn (fun v30 h31 =>
pickB (AV.bool b22) v30 (AV.bool false) fun b35 =>
J.jn (fun v36 h37 =>
J.jn (fun v39 h40 =>
J.jn (fun v43 h44 =>
J.jn (fun v47 h48 =>
pickB (AV.bool b35) v47 (AV.bool false) fun b52 =>
J.jn (fun v53 h54 =>
J.jn (fun v56 h57 =>
J.jn (fun v60 h61 =>
J.jn (fun v63 h64 =>
J.jn (fun v67 h68 =>
pickB (AV.bool b52) v67 (AV.bool false) fun b73 =>
J.jn (fun v74 h75 =>
J.jn (fun v77 h78 =>
J.jn (fun v81 h82 =>
pickB (AV.bool b73) v81 (AV.bool false) fun b86 =>
J.jn (fun v87 h88 =>
J.jn (fun v90 h91 =>
J.jn (fun v94 h95 =>
pickB (AV.bool b86) v94 (AV.bool false) fun b99 =>
J.jn (fun v100 h101 =>
J.jn (fun v103 h104 =>
J.jn (fun v107 h108 =>
pickB (AV.bool b99) v107 (AV.bool false) fun b112 =>
J.jn (fun v113 h114 =>
J.jn (fun v116 h117 =>
J.jn (fun v120 h121 =>
pickB (AV.bool b112) v120 (AV.bool false) fun b125 =>
J.jn (fun v126 h127 =>
J.jn (fun v129 h130 =>
J.jn (fun v133 h134 =>
pickB (AV.bool b125) v133 (AV.bool false) fun b138 =>
J.jn (fun v139 h140 =>
J.jn (fun v142 h143 =>
J.jn (fun v146 h147 =>
pickB (AV.bool b138) v146 (AV.bool false) fun b151 =>
k b151 h147) fun j148 =>
br b138 (
asI .i64 v142 fun x149 =>
fB (Bool.not (ltI (Int.ofNat 65536) x149)) fun b150 =>
j148 (AV.bool b150) h143) (
j148 skipV h143)) fun j144 =>
br b138 (
ldI .i64 v139 h140 fun x145 =>
j144 (AV.int .i64 x145) h140) (
j144 skipV h140)) fun j141 =>
br b138 (
j141 (AV.ptr n1 2) h134) (
j141 skipV h134)) fun j135 =>
br b125 (
asI .i64 v129 fun x136 =>
fB (Bool.not (ltI x136 (Int.ofNat 1))) fun b137 =>
j135 (AV.bool b137) h130) (
j135 skipV h130)) fun j131 =>
br b125 (
ldI .i64 v126 h127 fun x132 =>
j131 (AV.int .i64 x132) h127) (
j131 skipV h127)) fun j128 =>
br b125 (
j128 (AV.ptr n1 2) h121) (
j128 skipV h121)) fun j122 =>
br b112 (
asI .i64 v116 fun x123 =>
fB (Bool.not (ltI (Int.ofNat 6) x123)) fun b124 =>
j122 (AV.bool b124) h117) (
j122 skipV h117)) fun j118 =>
br b112 (
ldI .i64 v113 h114 fun x119 =>
j118 (AV.int .i64 x119) h114) (
j118 skipV h114)) fun j115 =>
br b112 (
j115 (AV.ptr n1 1) h108) (
j115 skipV h108)) fun j109 =>
br b99 (
asI .i64 v103 fun x110 =>
fB (Bool.not (ltI x110 (Int.ofNat 0))) fun b111 =>
j109 (AV.bool b111) h104) (
j109 skipV h104)) fun j105 =>
br b99 (
ldI .i64 v100 h101 fun x106 =>
j105 (AV.int .i64 x106) h101) (
j105 skipV h101)) fun j102 =>
br b99 (
j102 (AV.ptr n1 1) h95) (
j102 skipV h95)) fun j96 =>
br b86 (
asI .i64 v90 fun x97 =>
fB (Bool.not (ltI (Int.ofNat 999999) x97)) fun b98 =>
j96 (AV.bool b98) h91) (
j96 skipV h91)) fun j92 =>
br b86 (
ldI .i64 v87 h88 fun x93 =>
j92 (AV.int .i64 x93) h88) (
j92 skipV h88)) fun j89 =>
br b86 (
j89 (AV.ptr n1 0) h82) (
j89 skipV h82)) fun j83 =>
br b73 (
asI .i64 v77 fun x84 =>
fB (Bool.not (ltI x84 (Int.ofNat 1))) fun b85 =>
j83 (AV.bool b85) h78) (
j83 skipV h78)) fun j79 =>
br b73 (
ldI .i64 v74 h75 fun x80 =>
j79 (AV.int .i64 x80) h75) (
j79 skipV h75)) fun j76 =>
br b73 (
j76 (AV.ptr n1 0) h68) (
j76 skipV h68)) fun j69 =>
br b52 (
asS v56 fun s70 =>
asS v63 fun s71 =>
fB (Bool.not (Str.lt s71 s70)) fun b72 =>
j69 (AV.bool b72) h64) (
j69 skipV h64)) fun j65 =>
br b52 (
ldS v60 h61 fun s66 =>
j65 (AV.str s66) h61) (
j65 skipV h61)) fun j62 =>
br b52 (
j62 (AV.ptr n1 4) h57) (
j62 skipV h57)) fun j58 =>
br b52 (
ldS v53 h54 fun s59 =>
j58 (AV.str s59) h54) (
j58 skipV h54)) fun j55 =>
br b52 (
j55 (AV.ptr n1 3) h48) (
j55 skipV h48)) fun j49 =>
br b35 (
asI .i64 v43 fun x50 =>
fB (Bool.not (ltI (Int.ofNat 512) x50)) fun b51 =>
j49 (AV.bool b51) h44) (
j49 skipV h44)) fun j45 =>
br b35 (
asS v39 fun s46 =>
j45 (AV.int .i64 (Int.ofNat s46.len)) h40) (
j45 skipV h40)) fun j41 =>
br b35 (
ldS v36 h37 fun s42 =>
j41 (AV.str s42) h37) (
j41 skipV h37)) fun j38 =>
br b35 (
j38 (AV.ptr n1 4) h31) (
j38 skipV h31)) fun j32 =>
br b22 (
asS v26 fun s33 =>
fB (Bool.not (Str.beq s33 (⟨0, 0⟩ : Str))) fun b34 =>
j32 (AV.bool b34) h27) (
j32 skipV h27)) fun j28 =>
br b22 (
ldS v23 h24 fun s29 =>
j28 (AV.str s29) h24) (
j28 skipV h24)) fun j25 =>
br b22 (
j25 (AV.ptr n1 4) h18) (
j25 skipV h18)) fun j19 =>
br b5 (
asI .i64 v13 fun x20 =>
fB (Bool.not (ltI (Int.ofNat 512) x20)) fun b21 =>
j19 (AV.bool b21) h14) (
j19 skipV h14)) fun j15 =>
br b5 (
asS v9 fun s16 =>
j15 (AV.int .i64 (Int.ofNat s16.len)) h10) (
j15 skipV h10)) fun j11 =>
br b5 (
ldS v6 h7 fun s12 =>
j11 (AV.str s12) h7) (
j11 skipV h7)) fun j8 =>
br b5 (
j8 (AV.ptr n1 3) h2) (
j8 skipV h2)
noncomputable def s47 : AV → H → (Bool → H → Prop) → Prop := s47G J0 
noncomputable def w47 (c : AV → H → (Bool → H → Prop) → Prop) : Fun := fun xs h k => arg xs fun a0 xs => noArg xs <| c a0 h fun r0 h => k (.bool r0) h
theorem s47_eq (J : Joins) (a0 : AV) (h : H) (k : AV → H → Prop) : denF ty (gam J []) Tryz.f47 [a0] h k = s47G J  a0 h (fun r0 h => k (.bool r0) h) := by kernel_rfl
noncomputable def g47 : Fun := w47 s47
theorem g47_ok : FunOk Tryz.prog 47 g47 := (fun_ok ty_ok mixed (gam_ok (J := J0) (tab_nil fls_fun)) Tryz.func47 (fun args w => by simp)).imp fun xs h k e0 => by
  obtain ⟨a0, xs0, rfl, e1⟩ := arg_imp e0
  obtain ⟨rfl, e2⟩ := noArg_imp e1
  exact (s47_eq J0  a0 h k).mpr e2
/-- stagepost/manifest.Check -/
noncomputable def s16G (J : Joins) (c44 : Int → Int → Int → H → (Bool → H → Prop) → Prop) (c45 : AV → AV → H → (Bool → H → Prop) → Prop) (c46 : AV → AV → H → (Int → H → Prop) → Prop) (c47 : AV → H → (Bool → H → Prop) → Prop) (a0 : AV) (h : H) (k : Int → H → Prop) : Prop :=
Go.Am.asAgg a0 fun l3 =>
pushK (.cells false 39 l3) h fun n1 h2 =>
ldI .i64 (AV.ptr n1 1) h2 fun x4 =>
ldI .i64 (AV.ptr n1 2) h2 fun x5 =>
ldI .i64 (AV.ptr n1 3) h2 fun x6 =>
c44 x4 x5 x6 h2 fun b8 h7 =>
fB (Bool.not b8) fun b9 =>
J.jn (fun v10 h11 =>
J.jn (fun v13 h14 =>
J.jn (fun v17 h18 =>
J.jn (fun v21 h22 =>
pickB (AV.bool b9) (AV.bool true) v21 fun b26 =>
J.jn (fun v27 h28 =>
J.jn (fun v30 h31 =>
J.jn (fun v34 h35 =>
J.jn (fun v39 h40 =>
pickB (AV.bool b26) (AV.bool true) v39 fun b44 =>
br b44 (
k (Int.ofNat 2) h40) (
pushK (.smap []) h40 fun n45 h46 =>
ldV (AV.ptr n1 0) h46 fun v47 =>
lenK v47 fun x48 =>
J.lp (α := AV × AV × AV × AV × AV × Unit) (fun r52 v49 d50 h51 =>
asI .i64 v49.2.2.2.2.1 fun x53 =>
asI .i64 v49.2.2.2.1 fun x54 =>
fB (ltI x53 x54) fun b55 =>
br b55 (
ixK 5 v49.2.2.1 v49.2.2.2.2.1 fun p56 =>
ldN 5 p56 h51 fun l57 =>
pushK (.cells false 45 [(.int .i64 0), (.int .i64 0), (.int .i64 0), (.str ⟨0, 0⟩), (.str ⟨0, 0⟩)]) h51 fun n58 h59 =>
stN 5 (AV.ptr n58 0) l57 h59 fun h60 =>
ldN 5 (AV.ptr n58 0) h60 fun l61 =>
c47 (AV.agg l61) h60 fun b63 h62 =>
fB (Bool.not b63) fun b64 =>
J.jn (fun v65 h66 =>
J.jn (fun v68 h69 =>
J.jn (fun v72 h73 =>
J.jn (fun v76 h77 =>
J.jn (fun v80 h81 =>
pickB (AV.bool b64) (AV.bool true) v80 fun b86 =>
J.jn (fun v87 h88 =>
J.jn (fun v90 h91 =>
J.jn (fun v93 h94 =>
J.jn (fun v97 h98 =>
pickB (AV.bool b86) (AV.bool true) v97 fun b102 =>
br b102 (
leaveK (gam J [(44, w44 c44), (45, w45 c45), (46, w46 c46), (47, w47 c47)]) d50 h98 fun h103 =>
k (Int.ofNat 2) h103) (
ldI .i64 (AV.ptr n58 0) h98 fun x104 =>
op' (mapBlk ty 3 v49.2.1 (AV.int .i64 x104) (AV.bool true) h98) fun k105 =>
putK k105.1 k105.2 h98 fun h106 =>
asI .i64 v49.2.2.2.2.1 fun x107 =>
fB (ltI (Int.ofNat 0) x107) fun b108 =>
J.jn (fun v109 h110 =>
J.jb (fun b112 v113 =>
J.jn (fun v116 h117 =>
pickB (AV.bool b108) v116 (AV.bool false) fun b121 =>
J.jn (fun v122 h123 =>
J.jb (fun b126 v127 =>
J.jn (fun v130 h131 =>
J.jn (fun v133 h134 =>
J.jn (fun v138 h139 =>
J.jn (fun v142 h143 =>
J.jb (fun b146 v147 =>
J.jn (fun v150 h151 =>
J.jb (fun b153 v154 =>
J.jn (fun v157 h158 =>
pickB (AV.bool b121) v157 (AV.bool false) fun b163 =>
J.jn (fun v164 h165 =>
J.jb (fun b168 v169 =>
J.jn (fun v172 h173 =>
J.jn (fun v175 h176 =>
J.jn (fun v180 h181 =>
J.jn (fun v184 h185 =>
J.jb (fun b188 v189 =>
J.jn (fun v192 h193 =>
J.jb (fun b195 v196 =>
J.jn (fun v199 h200 =>
pickB (AV.bool b163) v199 (AV.bool false) fun b205 =>
br b205 (
leaveK (gam J [(44, w44 c44), (45, w45 c45), (46, w46 c46), (47, w47 c47)]) d50 h200 fun h206 =>
k (Int.ofNat 2) h206) (
asI .i64 v49.2.2.2.2.1 fun x207 =>
fI (wrapF .i64 (Int.add x207 (Int.ofNat 1))) fun x208 =>
r52 (v49.1, v49.2.1, v49.2.2.1, v49.2.2.2.1, (AV.int .i64 x208), ()) d50 h200)) fun j201 =>
br b163 (
asS v189 fun s202 =>
asS v196 fun s203 =>
fB (Bool.not (Str.lt s202 s203)) fun b204 =>
j201 (AV.bool b204) h193) (
j201 skipV h193)) fun j197 =>
br b163 (
ldS v192 h193 fun s198 =>
j197 true (AV.str s198)) (
j197 false skipV)) fun j194 =>
br b163 (
j194 (AV.ptr n58 3) h185) (
j194 skipV h185)) fun j190 =>
br b163 (
ldS v184 h185 fun s191 =>
j190 true (AV.str s191)) (
j190 false skipV)) fun j186 =>
br b163 (
faK 4 v180 fun p187 =>
j186 p187 h181) (
j186 skipV h181)) fun j182 =>
br b163 (
ixK 5 v169 v175 fun p183 =>
j182 p183 h176) (
j182 skipV h176)) fun j177 =>
br b163 (
asI .i64 v172 fun x178 =>
fI (wrapF .i64 (Int.sub x178 (Int.ofNat 1))) fun x179 =>
j177 (AV.int .i64 x179) h173) (
j177 skipV h173)) fun j174 =>
br b163 (
j174 v49.2.2.2.2.1 h165) (
j174 skipV h165)) fun j170 =>
br b163 (
ldV v164 h165 fun v171 =>
j170 true v171) (
j170 false skipV)) fun j166 =>
br b163 (
faK 0 v49.1 fun p167 =>
j166 p167 h158) (
j166 skipV h158)) fun j159 =>
br b121 (
asI .i64 v147 fun x160 =>
asI .i64 v154 fun x161 =>
fB (eqI x160 x161) fun b162 =>
j159 (AV.bool b162) h151) (
j159 skipV h151)) fun j155 =>
br b121 (
ldI .i64 v150 h151 fun x156 =>
j155 true (AV.int .i64 x156)) (
j155 false skipV)) fun j152 =>
br b121 (
j152 (AV.ptr n58 1) h143) (
j152 skipV h143)) fun j148 =>
br b121 (
ldI .i64 v142 h143 fun x149 =>
j148 true (AV.int .i64 x149)) (
j148 false skipV)) fun j144 =>
br b121 (
faK 1 v138 fun p145 =>
j144 p145 h139) (
j144 skipV h139)) fun j140 =>
br b121 (
ixK 5 v127 v133 fun p141 =>
j140 p141 h134) (
j140 skipV h134)) fun j135 =>
br b121 (
asI .i64 v130 fun x136 =>
fI (wrapF .i64 (Int.sub x136 (Int.ofNat 1))) fun x137 =>
j135 (AV.int .i64 x137) h131) (
j135 skipV h131)) fun j132 =>
br b121 (
j132 v49.2.2.2.2.1 h123) (
j132 skipV h123)) fun j128 =>
br b121 (
ldV v122 h123 fun v129 =>
j128 true v129) (
j128 false skipV)) fun j124 =>
br b121 (
faK 0 v49.1 fun p125 =>
j124 p125 h117) (
j124 skipV h117)) fun j118 =>
br b108 (
asI .i64 v113 fun x119 =>
fB (ltI (Int.ofNat 0) x119) fun b120 =>
j118 (AV.bool b120) h110) (
j118 skipV h110)) fun j114 =>
br b108 (
ldI .i64 v109 h110 fun x115 =>
j114 true (AV.int .i64 x115)) (
j114 false skipV)) fun j111 =>
br b108 (
j111 (AV.ptr n58 1) h106) (
j111 skipV h106))) fun j99 =>
br b86 (
j99 skipV h94) (
op' (aLookup ty 3 4 false v87 v93 h94) fun v100 =>
asB v100 fun b101 =>
j99 (AV.bool b101) h94)) fun j95 =>
br b86 (
j95 skipV h91) (
ldI .i64 v90 h91 fun x96 =>
j95 (AV.int .i64 x96) h91)) fun j92 =>
br b86 (
j92 skipV h88) (
j92 (AV.ptr n58 0) h88)) fun j89 =>
br b86 (
j89 skipV h81) (
j89 v49.2.1 h81)) fun j82 =>
br b64 (
j82 skipV h77) (
asI .i64 v68 fun x83 =>
asI .i64 v76 fun x84 =>
fB (Bool.not (ltI x83 x84)) fun b85 =>
j82 (AV.bool b85) h77)) fun j78 =>
br b64 (
j78 skipV h73) (
ldI .i64 v72 h73 fun x79 =>
j78 (AV.int .i64 x79) h73)) fun j74 =>
br b64 (
j74 skipV h69) (
faK 3 v49.1 fun p75 =>
j74 p75 h69)) fun j70 =>
br b64 (
j70 skipV h66) (
ldI .i64 v65 h66 fun x71 =>
j70 (AV.int .i64 x71) h66)) fun j67 =>
br b64 (
j67 skipV h62) (
j67 (AV.ptr n58 0) h62)) (
leaveK (gam J [(44, w44 c44), (45, w45 c45), (46, w46 c46), (47, w47 c47)]) d50 h51 fun h209 =>
k (Int.ofNat 0) h209)) ((AV.ptr n1 0), (AV.map n45), v47, (AV.int .i64 (Int.ofNat x48)), (AV.int .i64 (Int.ofNat 0)), ()) [] h46)) fun j41 =>
br b26 (
j41 skipV h35) (
asB v34 fun b42 =>
fB (Bool.not b42) fun b43 =>
j41 (AV.bool b43) h35)) fun j36 =>
br b26 (
j36 skipV h31) (
c45 v30 (AV.func (.func 46) [] []) h31 fun b38 h37 =>
j36 (AV.bool b38) h37)) fun j32 =>
br b26 (
j32 skipV h28) (
ldV v27 h28 fun v33 =>
j32 v33 h28)) fun j29 =>
br b26 (
j29 skipV h22) (
j29 (AV.ptr n1 0) h22)) fun j23 =>
br b9 (
j23 skipV h18) (
asI .i64 v17 fun x24 =>
fB (ltI (Int.ofNat 1024) x24) fun b25 =>
j23 (AV.bool b25) h18)) fun j19 =>
br b9 (
j19 skipV h14) (
lenK v13 fun x20 =>
j19 (AV.int .i64 (Int.ofNat x20)) h14)) fun j15 =>
br b9 (
j15 skipV h11) (
ldV v10 h11 fun v16 =>
j15 v16 h11)) fun j12 =>
br b9 (
j12 skipV h7) (
j12 (AV.ptr n1 0) h7)
noncomputable def s16 : AV → H → (Int → H → Prop) → Prop := s16G J0 s44 s45 s46 s47
noncomputable def w16 (c : AV → H → (Int → H → Prop) → Prop) : Fun := fun xs h k => arg xs fun a0 xs => noArg xs <| c a0 h fun r0 h => k (.int .i64 r0) h
theorem s16_eq (J : Joins) (c44 : Int → Int → Int → H → (Bool → H → Prop) → Prop) (c45 : AV → AV → H → (Bool → H → Prop) → Prop) (c46 : AV → AV → H → (Int → H → Prop) → Prop) (c47 : AV → H → (Bool → H → Prop) → Prop) (a0 : AV) (h : H) (k : AV → H → Prop) : denF ty (gam J [(44, w44 c44), (45, w45 c45), (46, w46 c46), (47, w47 c47)]) Tryz.f16 [a0] h k = s16G J c44 c45 c46 c47 a0 h (fun r0 h => k (.int .i64 r0) h) := by kernel_rfl
noncomputable def g16 : Fun := w16 s16
theorem g16_ok : FunOk Tryz.prog 16 g16 := (fun_ok ty_ok mixed (gam_ok (J := J0) (tab_cons g44_ok (tab_cons g45_ok (tab_cons g46_ok (tab_cons g47_ok (tab_nil fls_fun)))))) Tryz.func16 (fun args w => by simp)).imp fun xs h k e0 => by
  obtain ⟨a0, xs0, rfl, e1⟩ := arg_imp e0
  obtain ⟨rfl, e2⟩ := noArg_imp e1
  exact (s16_eq J0 s44 s45 s46 s47 a0 h k).mpr e2
end Go.Proofs.YtdaibgpceldbdaaGreatDoor
