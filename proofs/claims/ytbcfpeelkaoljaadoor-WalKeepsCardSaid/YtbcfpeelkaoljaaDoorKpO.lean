import Derived.Test.YtbcfpeelkaoljaaDoorKpN
namespace Go.Proofs.YtbcfpeelkaoljaaDoor
open Go Go.Am
set_option linter.all false
set_option maxRecDepth 100000
theorem q52_ok:Qp Tryd.prog 52 pRd:=(Qz QF QG (Qu (J:=J0) (Qb Qe4 (Qn Qo))) Tryd.func52 (fun args w=>by simp)).imp fun xs h k e0=>by
  obtain ⟨a0,xs0,rfl,e1⟩:=Qf e0
  obtain ⟨rfl,e2⟩:=Qj e1
  exact (s52_eq J0 s68 a0 h k).mpr e2
theorem q33_ok:Qp Tryd.prog 33 (w33 T33):=(Qz QF QG (Qu (J:=J0) (Qb q52_ok (Qn Qo))) Tryd.func33 (fun args w=>by simp)).imp fun xs h k e0=>by
  obtain ⟨a0,xs0,rfl,e1⟩:=Qf e0
  obtain ⟨rfl,e2⟩:=Qj e1
  exact (Qes J0 pRd a0 h k).mpr e2
theorem Qar:Qp Tryd.prog 26 (w26 T26):=(Qz QF QG (Qu (J:=J0) (Qb Qfd (Qb pRep_ok (Qn Qo)))) Tryd.func26 (fun args w=>by simp)).imp fun xs h k e0=>by
  obtain ⟨a0,xs0,rfl,e1⟩:=Qf e0
  obtain ⟨rfl,e2⟩:=Qj e1
  obtain ⟨a0,rfl,e3⟩:=QI.1 e2
  exact (Qeu J0 s42 pRep a0 h k).mpr e3
theorem q18_ok:Qp Tryd.prog 18 (w18 (Qbn J0 T26 s32)):=(Qz QF QG (Qu (J:=J0) (Qb Qar (Qb NF (Qn Qo)))) Tryd.func18 (fun args w=>by simp)).imp fun xs h k e0=>by
  obtain ⟨a0,xs0,rfl,e1⟩:=Qf e0
  obtain ⟨a1,xs1,rfl,e2⟩:=Qf e1
  obtain ⟨rfl,e3⟩:=Qj e2
  obtain ⟨a1,rfl,e4⟩:=QI.1 e3
  exact (QeB J0 T26 s32 a0 a1 h k).mpr e4
theorem q19_ok:Qp Tryd.prog 19 (w19 (Qbm J0 T26 s32 T33 T34)):=(Qz QF QG (Qu (J:=J0) (Qb Qar (Qb NF (Qb q33_ok (Qb Qfi (Qn Qo)))))) Tryd.func19 (fun args w=>by simp)).imp fun xs h k e0=>by
  obtain ⟨a0,xs0,rfl,e1⟩:=Qf e0
  obtain ⟨a1,xs1,rfl,e2⟩:=Qf e1
  obtain ⟨a2,xs2,rfl,e3⟩:=Qf e2
  obtain ⟨rfl,e4⟩:=Qj e3
  obtain ⟨a1,rfl,e5⟩:=QI.1 e4
  exact (QeA J0 T26 s32 T33 s34 a0 a1 a2 h k).mpr e5
theorem QeE:Qp Tryd.prog 20 (w20 T20):=(Qz QF QG (Qu (J:=J0) (Qb Qar (Qb QaF (Qb Qfh (Qb Qfg (Qn Qo)))))) Tryd.func20 (fun args w=>by simp)).imp fun xs h k e0=>by
  obtain ⟨a0,xs0,rfl,e1⟩:=Qf e0
  obtain ⟨rfl,e2⟩:=Qj e1
  exact (Qey J0 T26 s27 s35 s36 a0 h k).mpr e2
theorem q10_ok:Qp Tryd.prog 10 (w10 T10):=(Qz QF QG (Qu (J:=J0) (Qb QeE (Qb Qcy (Qn Qo)))) Tryd.func10 (fun args w=>by simp)).imp fun xs h k e0=>by
  obtain ⟨a0,xs0,rfl,e1⟩:=Qf e0
  obtain ⟨rfl,e2⟩:=Qj e1
  exact (s10_eq J0 T20 s22 a0 h k).mpr e2
theorem q9_ok:Qp Tryd.prog 9 (w9 T9):=(Qz QF QG (Qu (J:=J0) (Qb Qcy (Qb QaH (Qb Qfm (Qb Qfl (Qb Qar (Qb QaF (Qb Qfk (Qb Qfj (Qn Qo)))))))))) Tryd.func9 (fun args w=>by simp)).imp fun xs h k e0=>by
  obtain ⟨a0,xs0,rfl,e1⟩:=Qf e0
  obtain ⟨a1,xs1,rfl,e2⟩:=Qf e1
  obtain ⟨rfl,e3⟩:=Qj e2
  exact (s9_eq J0 s22 s23 s24 s25 T26 s27 s28 s29 a0 a1 h k).mpr e3
theorem q6_ok:Qp Tryd.prog 6 (w6 T6):=(Qz QF QG (Qu (J:=J0) (Qb Qcz (Qb q18_ok (Qb q19_ok (Qb QeE (Qn Qo)))))) Tryd.func6 (fun args w=>by simp)).imp fun xs h k e0=>by
  obtain ⟨a0,xs0,rfl,e1⟩:=Qf e0
  obtain ⟨a1,xs1,rfl,e2⟩:=Qf e1
  obtain ⟨a2,xs2,rfl,e3⟩:=Qf e2
  obtain ⟨rfl,e4⟩:=Qj e3
  obtain ⟨a1,rfl,e5⟩:=QI.1 e4
  obtain ⟨a2,rfl,e6⟩:=QI.1 e5
  exact (s6_eq J0 s17 (Qbn J0 T26 s32) (Qbm J0 T26 s32 T33 T34) T20 a0 a1 a2 h k).mpr e6
theorem q3_ok (Q:H→Prop) (q4_ok:Qp Tryd.prog 4 (Qbx Q)):Qp Tryd.prog 3 (w3 (s3G J0 (Qbx Q) s5 T6 T7 s8 T9 T10 Qan T12 T13)):=(Qz QF QG (Qu (J:=J0) (Qb q4_ok (Qb g5_ok (Qb q6_ok (Qb g7_ok (Qb g8_ok (Qb q9_ok (Qb q10_ok (Qb g11'_ok (Qb g12_ok (Qb Qfn (Qn Qo)))))))))))) Tryd.func3 (fun args w=>by simp)).imp fun xs h k e0=>by
  obtain ⟨a0,xs0,rfl,e1⟩:=Qf e0
  obtain ⟨rfl,e2⟩:=Qj e1
  exact (s3_eq J0 (Qbx Q) s5 T6 T7 s8 T9 T10 Qan T12 T13 a0 h k).mpr e2
end Go.Proofs.YtbcfpeelkaoljaaDoor
