import Derived.Test.YtfgdelkdmdmfgaaDoorLaG
namespace Go.Proofs.YtfgdelkdmdmfgaaDoor
open Go Go.Am
set_option linter.all false
set_option maxRecDepth 100000
theorem q52_ok:Qt Tryd.prog 52 pRd:=(QA QD QE (Qv (J:=J0) (Qc QeK (Ql Qn))) Tryd.func52 (fun args w=>by simp)).imp fun xs h k e0=>by
  obtain ⟨a0,xs0,rfl,e1⟩:=Qf e0
  obtain ⟨rfl,e2⟩:=Qi e1
  exact (s52_eq J0 s67 a0 h k).mpr e2
theorem q34_ok:Qt Tryd.prog 34 (w34 T33):=(QA QD QE (Qv (J:=J0) (Qc q52_ok (Ql Qn))) Tryd.func34 (fun args w=>by simp)).imp fun xs h k e0=>by
  obtain ⟨a0,xs0,rfl,e1⟩:=Qf e0
  obtain ⟨rfl,e2⟩:=Qi e1
  exact (Qee J0 pRd a0 h k).mpr e2
theorem Qap:Qt Tryd.prog 24 (w24 T26):=(QA QD QE (Qv (J:=J0) (Qc QeV (Qc pRep_ok (Ql Qn)))) Tryd.func24 (fun args w=>by simp)).imp fun xs h k e0=>by
  obtain ⟨a0,xs0,rfl,e1⟩:=Qf e0
  obtain ⟨rfl,e2⟩:=Qi e1
  obtain ⟨a0,rfl,e3⟩:=QC.1 e2
  exact (Qef J0 s41 pRep a0 h k).mpr e3
theorem q18_ok:Qt Tryd.prog 18 (w18 (Qak J0 s10 T26)):=(QA QD QE (Qv (J:=J0) (Qc XL (Qc Qap (Ql Qn)))) Tryd.func18 (fun args w=>by simp)).imp fun xs h k e0=>by
  obtain ⟨a0,xs0,rfl,e1⟩:=Qf e0
  obtain ⟨a1,xs1,rfl,e2⟩:=Qf e1
  obtain ⟨rfl,e3⟩:=Qi e2
  obtain ⟨a1,rfl,e4⟩:=QC.1 e3
  exact (Qem J0 s10 T26 a0 a1 h k).mpr e4
theorem q19_ok:Qt Tryd.prog 19 (w19 (Nc J0 s10 T26 T33 T34)):=(QA QD QE (Qv (J:=J0) (Qc XL (Qc Qap (Qc q34_ok (Qc Qe0 (Ql Qn)))))) Tryd.func19 (fun args w=>by simp)).imp fun xs h k e0=>by
  obtain ⟨a0,xs0,rfl,e1⟩:=Qf e0
  obtain ⟨a1,xs1,rfl,e2⟩:=Qf e1
  obtain ⟨a2,xs2,rfl,e3⟩:=Qf e2
  obtain ⟨rfl,e4⟩:=Qi e3
  obtain ⟨a1,rfl,e5⟩:=QC.1 e4
  exact (Qel J0 s10 T26 T33 s35 a0 a1 a2 h k).mpr e5
theorem q20_ok:Qt Tryd.prog 20 (w20 T20):=(QA QD QE (Qv (J:=J0) (Qc Qap (Qc QaF (Qc QeZ (Qc QeY (Ql Qn)))))) Tryd.func20 (fun args w=>by simp)).imp fun xs h k e0=>by
  obtain ⟨a0,xs0,rfl,e1⟩:=Qf e0
  obtain ⟨rfl,e2⟩:=Qi e1
  exact (Qej J0 T26 s25 s36 s37 a0 h k).mpr e2
theorem q8_ok:Qt Tryd.prog 8 (w8 T9):=(QA QD QE (Qv (J:=J0) (Qc QbI (Qc Qe6 (Qc Qe5 (Qc Qe4 (Qc Qap (Qc QaF (Qc Qe3 (Qc Qe2 (Ql Qn)))))))))) Tryd.func8 (fun args w=>by simp)).imp fun xs h k e0=>by
  obtain ⟨a0,xs0,rfl,e1⟩:=Qf e0
  obtain ⟨a1,xs1,rfl,e2⟩:=Qf e1
  obtain ⟨rfl,e3⟩:=Qi e2
  exact (s8_eq J0 s9 s21 s22 s23 T26 s25 s26 s27 a0 a1 h k).mpr e3
theorem q6_ok:Qt Tryd.prog 6 (w6 T6):=(QA QD QE (Qv (J:=J0) (Qc Qcq (Qc q18_ok (Qc q19_ok (Qc q20_ok (Ql Qn)))))) Tryd.func6 (fun args w=>by simp)).imp fun xs h k e0=>by
  obtain ⟨a0,xs0,rfl,e1⟩:=Qf e0
  obtain ⟨a1,xs1,rfl,e2⟩:=Qf e1
  obtain ⟨a2,xs2,rfl,e3⟩:=Qf e2
  obtain ⟨rfl,e4⟩:=Qi e3
  obtain ⟨a1,rfl,e5⟩:=QC.1 e4
  obtain ⟨a2,rfl,e6⟩:=QC.1 e5
  exact (s6_eq J0 s17 (Qak J0 s10 T26) (Nc J0 s10 T26 T33 T34) T20 a0 a1 a2 h k).mpr e6
theorem q3_ok (Q:H→Prop) (q4_ok:Qt Tryd.prog 4 (Qbo Q)):Qt Tryd.prog 3 (w3 (s3G J0 (Qbo Q) s5 T6 T7 T9 T14 s10 T11 T12 T13)):=(QA QD QE (Qv (J:=J0) (Qc q4_ok (Qc g5_ok (Qc q6_ok (Qc g7_ok (Qc q8_ok (Qc QbI (Qc XL (Qc g11_ok (Qc g12_ok (Qc g13_ok (Ql Qn)))))))))))) Tryd.func3 (fun args w=>by simp)).imp fun xs h k e0=>by
  obtain ⟨a0,xs0,rfl,e1⟩:=Qf e0
  obtain ⟨a1,xs1,rfl,e2⟩:=Qf e1
  obtain ⟨a2,xs2,rfl,e3⟩:=Qf e2
  obtain ⟨a3,xs3,rfl,e4⟩:=Qf e3
  obtain ⟨rfl,e5⟩:=Qi e4
  obtain ⟨a1,rfl,e6⟩:=QC.1 e5
  obtain ⟨a2,rfl,e7⟩:=QC.1 e6
  obtain ⟨a3,rfl,e8⟩:=QC.1 e7
  exact (s3_eq J0 (Qbo Q) s5 T6 T7 T9 T14 s10 T11 T12 T13 a0 a1 a2 a3 h k).mpr e8
end Go.Proofs.YtfgdelkdmdmfgaaDoor
