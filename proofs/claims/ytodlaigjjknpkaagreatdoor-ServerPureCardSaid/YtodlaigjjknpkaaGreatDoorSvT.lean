import Derived.Test.YtodlaigjjknpkaaGreatDoorSvS
namespace Go.Proofs.YtodlaigjjknpkaaGreatDoor
open Go Go.Am
set_option linter.all false
set_option maxRecDepth 100000
set_option maxHeartbeats 4000000
theorem ren_cap {v0 v : AV} {ρ : Nat→Nat} (h : v0.ren ρ = v) (hc : ∀ id o n c es ex,v = .slice id o n c es ex→n ≤ c) : ∀ id o n c es ex,v0 = .slice id o n c es ex→n ≤ c:=fun id o n c es ex e=>by
  subst e
  exact hc (ρ id) o n c es ex (by rw [← h]; simp [AV.ren])
mutual
theorem QE : ∀ (n : Nat) (a : AV),a.flat = true→a.under n
  | n,.bool _,_ | n,.int _ _,_ | n,.str _,_ | n,.nilp,_ | n,.nils,_ | n,.nilm,_ | n,.nilf,_ | n,.nili,_ | n,.junk,_=>by simp [AV.under]
  | n,.agg cs,h | n,.tuple cs,h=>by simp only [AV.under]; exact flatL_under n cs (by simpa [AV.flat] using h)
  | n,.ptr _ _,h | n,.slice _ _ _ _ _ _,h | n,.map _,h | n,.yield _,h | n,.func _ _ _,h | n,.iface _ _,h | n,.glob _ _,h=>by simp [AV.flat] at h
theorem flatL_under : ∀ (n : Nat) (cs : List AV),AV.flatL cs = true→AV.underL n cs
  | n,[],_=>by simp [AV.underL]
  | n, a :: cs, h => by
    simp only [AV.flatL,Bool.and_eq_true] at h
    exact ⟨QE n a h.1,flatL_under n cs h.2⟩
end
theorem al {g : Fun} {xs : List AV} {h : H} {k : AV→H→Prop} (u : AV.underL 0 xs) (e : g xs H0 fun r _=>AV.under 0 r ∧ k r h) : Qa1 g xs h k:=⟨H0,.empty h,.empty,u,e⟩
theorem Zg {xs : List AV} {F : AV→Prop} (e : arg xs fun a xs=>QB xs (F a)) : ∃ a,xs = [a] ∧ F a:=by
  obtain ⟨a,ys,rfl,e⟩:=Qp e
  obtain ⟨rfl,e⟩:=Qt e
  exact ⟨a,rfl,e⟩
theorem ZK {xs : List AV} {F : AV→AV→Prop} (e : arg xs fun a xs=>arg xs fun b xs=>QB xs (F a b)) : ∃ a b,xs = [a,b] ∧ F a b:=by
  obtain ⟨a,ys,rfl,e⟩:=Qp e
  obtain ⟨b,rfl,e⟩:=Zg e
  exact ⟨a,b,rfl,e⟩
theorem QfL {xs : List AV} {F : AV→AV→AV→Prop} (e : arg xs fun a xs=>arg xs fun b xs=>arg xs fun c xs=>QB xs (F a b c)) : ∃ a b c,xs = [a,b,c] ∧ F a b c:=by
  obtain ⟨a,ys,rfl,e⟩:=Qp e
  obtain ⟨b,c,rfl,e⟩:=ZK e
  exact ⟨a,b,c,rfl,e⟩
theorem fk {G : List (Nat × Fun)} {f : Nat} {fn : Func} (t : UZ (Qe Tryz.prog) G) (h : Tryz.prog.funcs[f]? = some fn) (he : ∀ args w,(callFunc f args).run Tryz.prog w = .ok (.enter f args) w:=by intro _ _; simp) : Qe Tryz.prog f (Ql ty (gam J0 G) fn):=Qf Qi Qj (Qg (J:=J0) t) h he
theorem fBx {b : Bool} {k : Bool→Prop} (e : fB b k) : k b:=by rw [Qk] at e; exact e
def wC (C : Cfg) (v0 v1 : AV) : Cfg:={ C with vs:=v0,vh:=v1 }
def wX (X : Ask) (v2 v3 v4 v5 : AV) : Ask:={ X with vk:=v2,vw:=v3,vr:=v4,vn:=v5 }
theorem le1 {α : Type} {f : α→List AV} {es : Nat} {h : H} {v : AV} {l : List α} (q : RowAt f es h v l) (hf : ∀ a,AV.flatL (f a) = true) : ∃ v0 b0 b1 b2 b3 b4 b5 ρ,Lease (HX b0 b1 b2 b3 b4 b5) h ρ ∧ RowAt f es (HX b0 b1 b2 b3 b4 b5) v0 l ∧ v0.ren ρ = v ∧ v0.under 6:=by
  obtain ⟨v0,b0,i0,l0,r0,t0,u0⟩:=RowAt.take q 0 hf
  exact ⟨v0,b0,.dead,.dead,.dead,.dead,.dead,R6 i0 0 0 0 0 0,Qe1 l0 (.dead h) (.dead h) (.dead h) (.dead h) (.dead h),t0 _ rfl (Nat.le_of_ble_eq_true rfl),r0 _ rfl,u0 6 (by decide)⟩
theorem leB {h : H} {C : Cfg} {X : Ask} (c : CfgIn h C) (x : AskIn h X) : ∃ v0 v1 v2 v3 v4 v5 b0 b1 b2 b3 b4 b5 ρ,Lease (HX b0 b1 b2 b3 b4 b5) h ρ ∧ CfgIn (HX b0 b1 b2 b3 b4 b5) (wC C v0 v1) ∧ AskIn (HX b0 b1 b2 b3 b4 b5) (wX X v2 v3 v4 v5) ∧
    (AV.agg (QG (wC C v0 v1))).ren ρ = .agg (QG C) ∧ (AV.agg (Qx (wX X v2 v3 v4 v5))).ren ρ = .agg (Qx X) ∧ (AV.agg (QG (wC C v0 v1))).under 6 ∧ (AV.agg (Qx (wX X v2 v3 v4 v5))).under 6:=by
  obtain ⟨v0,b0,i0,l0,r0,t0,u0⟩:=RowAt.take c.ks 0 fun _=>rfl
  obtain ⟨v1,b1,i1,l1,r1,t1,u1⟩:=RowAt.take c.hs 1 fun _=>rfl
  obtain ⟨v2,b2,i2,l2,r2,t2,u2⟩:=RowAt.take x.keys 2 fun _=>rfl
  obtain ⟨v3,b3,i3,l3,r3,t3,u3⟩:=RowAt.take x.wrs 3 fun _=>rfl
  obtain ⟨v4,b4,i4,l4,r4,t4,u4⟩:=RowAt.take x.rkeys 4 fun _=>rfl
  obtain ⟨v5,b5,i5,l5,r5,t5,u5⟩:=RowAt.take x.known 5 fun _=>rfl
  have n : ∀ {i},Nat.ble (i + 1) 6 = true→i < (HX b0 b1 b2 b3 b4 b5).next:=fun e=>Nat.le_of_ble_eq_true e
  refine ⟨v0,v1,v2,v3,v4,v5,b0,b1,b2,b3,b4,b5,R6 i0 i1 i2 i3 i4 i5,Qe1 l0 l1 l2 l3 l4 l5,⟨t0 _ rfl (n rfl),t1 _ rfl (n rfl),c.hl⟩,⟨t2 _ rfl (n rfl),t3 _ rfl (n rfl),t4 _ rfl (n rfl),t5 _ rfl (n rfl),x.l0,x.l1,x.l2,x.l3,ren_cap (r2 (R6 i0 i1 i2 i3 i4 i5) rfl) x.kc⟩,?_,?_,?_,?_⟩
  · simp only [AV.ren,AV.renL,QG,wC,r0 (R6 i0 i1 i2 i3 i4 i5) rfl,r1 (R6 i0 i1 i2 i3 i4 i5) rfl]
  · simp only [AV.ren,AV.renL,Qx,wX,r2 (R6 i0 i1 i2 i3 i4 i5) rfl,r3 (R6 i0 i1 i2 i3 i4 i5) rfl,r4 (R6 i0 i1 i2 i3 i4 i5) rfl,r5 (R6 i0 i1 i2 i3 i4 i5) rfl]
  · simp only [AV.underL,AV.under,QG,wC,and_true,true_and]; exact ⟨u0 6 (by decide),u1 6 (by decide)⟩
  · simp only [AV.underL,AV.under,Qx,wX,and_true,true_and]; exact ⟨u2 6 (by decide),u3 6 (by decide),u4 6 (by decide),u5 6 (by decide)⟩
def X00 : Ask:={ id:=0,from_:=0,nw:=0,nl:=0,nt:=0,kind:=0,n:=0,m:=0,bw:=0,bl:=0,bt:=0,mw:=0,ml:=0,mt:=0,anchor:=[],fr:=[],to:=[],w:=0,l:=0,t:=0,lw:=0,ll:=0,lt:=0,tw:=0,tl:=0,tt:=0,vk:=.nils,vw:=.nils,reads:=false,whole:=false,rn:=0,rm:=0,rst:=0,rw:=0,rl:=0,rt:=0,vr:=.nils,beat:=0,pw:=0,pl:=0,pt:=0,vn:=.nils,keys:=[],wrs:=[],rkeys:=[],known:=[] }
theorem x00 (h : H) : AskIn h X00:=⟨.nil _ _ _,.nil _ _ _,.nil _ _ _,.nil _ _ _,(by decide),(by decide),(by decide),(by decide),fun _ _ _ _ _ _ e=>by cases e⟩
def C00 : Cfg:={ nodes:=0,off:=0,exp:=0,lease:=0,per:=0,bits:=0,top:=0,most:=0,vs:=.nils,vh:=.nils,ks:=[],hs:=[] }
theorem c00 (h : H) : CfgIn h C00:=⟨.nil _ _ _,.nil _ _ _,by simp [C00]⟩
theorem leC {h : H} {C : Cfg} (c : CfgIn h C) : ∃ v0 v1 b0 b1 b2 b3 b4 b5 ρ,Lease (HX b0 b1 b2 b3 b4 b5) h ρ ∧ CfgIn (HX b0 b1 b2 b3 b4 b5) (wC C v0 v1) ∧ (AV.agg (QG (wC C v0 v1))).ren ρ = .agg (QG C) ∧ (AV.agg (QG (wC C v0 v1))).under 6:=by
  obtain ⟨v0,v1,v2,v3,v4,v5,b0,b1,b2,b3,b4,b5,ρ,l,c0,x0,e0,e1,u0,u1⟩:=leB c (x00 h)
  exact ⟨v0,v1,b0,b1,b2,b3,b4,b5,ρ,l,c0,e0,u0⟩
theorem leX {h : H} {X : Ask} (x : AskIn h X) : ∃ v2 v3 v4 v5 b0 b1 b2 b3 b4 b5 ρ,Lease (HX b0 b1 b2 b3 b4 b5) h ρ ∧ AskIn (HX b0 b1 b2 b3 b4 b5) (wX X v2 v3 v4 v5) ∧ (AV.agg (Qx (wX X v2 v3 v4 v5))).ren ρ = .agg (Qx X) ∧ (AV.agg (Qx (wX X v2 v3 v4 v5))).under 6:=by
  obtain ⟨v0,v1,v2,v3,v4,v5,b0,b1,b2,b3,b4,b5,ρ,l,c0,x0,e0,e1,u0,u1⟩:=leB (c00 h) x
  exact ⟨v2,v3,v4,v5,b0,b1,b2,b3,b4,b5,ρ,l,x0,e1,u1⟩
theorem QeG : Qe Tryz.prog 42 (w42 Jo):=(fk (Qc Qd) Tryz.func42).alone.imp fun xs h k e0=>by
  obtain ⟨a0,rfl,e1⟩:=Zg e0
  obtain ⟨a0,rfl,e2⟩:=QI.1 e1
  exact al (flatL_under 0 _ rfl) ((Qd5 J0  a0 H0 _).mpr (t42 fun r hr=>by subst hr; exact ⟨QE 0 _ rfl,fBx e2⟩))
theorem q132_ok : Qe Tryz.prog 132 (w132 Jo):=(fk (Qc Qd) Tryz.func132).alone.imp fun xs h k e0=>by
  obtain ⟨a0,rfl,e1⟩:=Zg e0
  obtain ⟨a0,rfl,e2⟩:=QI.1 e1
  exact al (flatL_under 0 _ rfl) ((QbC J0  a0 H0 _).mpr (t132 fun r hr=>by subst hr; exact ⟨QE 0 _ rfl,fBx e2⟩))
theorem QbH : Qe Tryz.prog 141 (w141 Jo):=(fk (Qc Qd) Tryz.func141).alone.imp fun xs h k e0=>by
  obtain ⟨a0,rfl,e1⟩:=Zg e0
  obtain ⟨a0,rfl,e2⟩:=QI.1 e1
  exact al (flatL_under 0 _ rfl) ((s141_eq J0  a0 H0 _).mpr (t141 fun r hr=>by subst hr; exact ⟨QE 0 _ rfl,fBx e2⟩))
theorem q133_ok : Qe Tryz.prog 133 (w133 Qdl):=(fk (Qc Qd) Tryz.func133).alone.imp fun xs h k e0=>by
  obtain ⟨a0,a1,rfl,e1⟩:=ZK e0
  obtain ⟨a0,rfl,e2⟩:=QI.1 e1
  obtain ⟨a1,rfl,e3⟩:=Zr.1 e2
  exact al (flatL_under 0 _ rfl) ((QbB J0  a0 a1 H0 _).mpr (t133 fun r hr=>by subst hr; exact ⟨QE 0 _ rfl,fBx e3⟩))
theorem q144_ok : Qe Tryz.prog 144 (w144 Qdl):=(fk (Qc Qd) Tryz.func144).alone.imp fun xs h k e0=>by
  obtain ⟨a0,a1,rfl,e1⟩:=ZK e0
  obtain ⟨a0,rfl,e2⟩:=QI.1 e1
  obtain ⟨a1,rfl,e3⟩:=Zr.1 e2
  exact al (flatL_under 0 _ rfl) ((s144_eq J0  a0 a1 H0 _).mpr (t144 fun r hr=>by subst hr; exact ⟨QE 0 _ rfl,fBx e3⟩))
theorem q23_ok : Qe Tryz.prog 23 (w23 pCnt):=(fk (Qc Qd) Tryz.func23).alone.imp fun xs h k e0=>by
  obtain ⟨a0,a1,a2,rfl,e1⟩:=QfL e0
  obtain ⟨a0,rfl,e2⟩:=QD.1 e1
  obtain ⟨a1,rfl,e3⟩:=QD.1 e2
  obtain ⟨a2,rfl,e4⟩:=QD.1 e3
  exact al (flatL_under 0 _ rfl) ((Qef J0  a0 a1 a2 H0 _).mpr (t23 fun r hr=>by subst hr; exact ⟨QE 0 _ rfl,fBx e4⟩))
theorem Qau : Qe Tryz.prog 40 (w40 UP):=(fk (Qc Qd) Tryz.func40).alone.imp fun xs h k e0=>by
  obtain ⟨a0,rfl,e1⟩:=Zg e0
  obtain ⟨w,l,t,rfl,e⟩:=e1
  exact al (flatL_under 0 _ rfl) ((Qd7 J0  (VA w l t) H0 _).mpr (t40 fun r0 hr0=>by subst hr0; exact ⟨QE 0 _ rfl,e⟩))
theorem Ns : Qe Tryz.prog 28 (w28 UP):=(fk (Qc Qd) Tryz.func28).alone.imp fun xs h k e0=>by
  obtain ⟨a0,rfl,e1⟩:=Zg e0
  obtain ⟨w,l,t,rfl,e⟩:=e1
  exact al (flatL_under 0 _ rfl) ((s28_eq J0  (VA w l t) H0 _).mpr (t28 fun r0 hr0=>by subst hr0; exact ⟨QE 0 _ rfl,e⟩))
theorem Qar : Qe Tryz.prog 81 (w81 Jp):=(fk (Qc Qd) Tryz.func81).alone.imp fun xs h k e0=>by
  obtain ⟨a0,rfl,e1⟩:=Zg e0
  obtain ⟨n,m,rfl,e⟩:=e1
  exact al (flatL_under 0 _ rfl) ((QdS J0  (Jj n m) H0 _).mpr (t81 fun r0 r1 hr0 hr1=>by subst hr0; subst hr1; exact ⟨QE 0 _ rfl,e⟩))
theorem Qaq : Qe Tryz.prog 93 (w93 Jp):=(fk (Qc Qd) Tryz.func93).alone.imp fun xs h k e0=>by
  obtain ⟨a0,rfl,e1⟩:=Zg e0
  obtain ⟨n,m,rfl,e⟩:=e1
  exact al (flatL_under 0 _ rfl) ((s93_eq J0  (Jj n m) H0 _).mpr (t93 fun r0 r1 hr0 hr1=>by subst hr0; subst hr1; exact ⟨QE 0 _ rfl,e⟩))
theorem Qat : Qe Tryz.prog 41 (w41 QaA):=(fk (Qa Qar (Qc Qd)) Tryz.func41).alone.imp fun xs h k e0=>by
  obtain ⟨a0,rfl,e1⟩:=Zg e0
  obtain ⟨n,m,rfl,e⟩:=e1
  exact al (flatL_under 0 _ rfl) ((Qd6 J0 Jp (Jj n m) H0 _).mpr (t41 fun r0 hr0=>by subst hr0; exact ⟨QE 0 _ rfl,fBx e⟩))
theorem QeD : Qe Tryz.prog 48 (w48 QeN):=(fk (Qa Qat (Qc Qd)) Tryz.func48).alone.imp fun xs h k e0=>by
  obtain ⟨a0,rfl,e1⟩:=Zg e0
  obtain ⟨n,m,rfl,e⟩:=e1
  exact al (flatL_under 0 _ rfl) ((QdZ J0 QaA (Jj n m) H0 _).mpr (t48 fun r0 hr0=>by subst hr0; exact ⟨QE 0 _ rfl,fBx e⟩))
theorem QeA : Qe Tryz.prog 55 (w55 QeM):=(fk (Qa Qaq (Qc Qd)) Tryz.func55).alone.imp fun xs h k e0=>by
  obtain ⟨a0,a1,rfl,e1⟩:=ZK e0
  obtain ⟨a1,rfl,e2⟩:=Zr.1 e1
  obtain ⟨n,m,rfl,e⟩:=e2
  exact al (flatL_under 0 _ rfl) ((s55_eq J0 Jp (Jj n m) a1 H0 _).mpr (t55 fun r0 hr0=>by subst hr0; exact ⟨QE 0 _ rfl,fBx e⟩))
theorem q83_ok : Qe Tryz.prog 83 (w83 QaC):=(fk (Qa Qau (Qa Qar (Qa q132_ok (Qa q133_ok (Qc Qd))))) Tryz.func83).alone.imp fun xs h k e0=>by
  obtain ⟨a0,rfl,e1⟩:=Zg e0
  obtain ⟨key,n,m,bw,bl,bt,anchor,w,l,t,val,del,rfl,e⟩:=e1
  exact al (flatL_under 0 _ rfl) ((QdQ J0 UP Jp Jo Qdl (Qdt key n m bw bl bt anchor w l t val del) H0 _).mpr (t83 fun r0 hr0=>by subst hr0; exact ⟨QE 0 _ rfl,e⟩))
theorem q96_ok : Qe Tryz.prog 96 (w96 QaC):=(fk (Qa Ns (Qa Qaq (Qa QbH (Qa q144_ok (Qc Qd))))) Tryz.func96).alone.imp fun xs h k e0=>by
  obtain ⟨a0,rfl,e1⟩:=Zg e0
  obtain ⟨key,n,m,bw,bl,bt,anchor,w,l,t,val,del,rfl,e⟩:=e1
  exact al (flatL_under 0 _ rfl) ((s96_eq J0 UP Jp Jo Qdl (Qdt key n m bw bl bt anchor w l t val del) H0 _).mpr (t96 fun r0 hr0=>by subst hr0; exact ⟨QE 0 _ rfl,e⟩))
theorem QbI : Qe Tryz.prog 134 (Qal Nu):=(fk (Qc Qd) Tryz.func134).alone.imp fun xs h k e0=>by
  obtain ⟨a0,rfl,e1⟩:=Zg e0
  obtain ⟨fr,to,rfl,e⟩:=e1
  exact al (flatL_under 0 _ rfl) ((QbA J0  (ZF fr to) H0 _).mpr (t134 fun r0 hr0=>by subst hr0; exact ⟨QE 0 _ rfl,fBx e⟩))
theorem q213_ok : Qe Tryz.prog 213 (w213 Nu):=(fk (Qc Qd) Tryz.func213).alone.imp fun xs h k e0=>by
  obtain ⟨a0,rfl,e1⟩:=Zg e0
  obtain ⟨fr,to,rfl,e⟩:=e1
  exact al (flatL_under 0 _ rfl) ((s213_eq J0  (ZF fr to) H0 _).mpr (t213 fun r0 hr0=>by subst hr0; exact ⟨QE 0 _ rfl,fBx e⟩))
theorem q91_ok : Qe Tryz.prog 91 (w91 pHas):=(fk (Qc Qd) Tryz.func91).alone.imp fun xs h k e0=>by
  obtain ⟨a0,a1,rfl,e1⟩:=ZK e0
  obtain ⟨a1,rfl,e2⟩:=QI.1 e1
  obtain ⟨fr,to,rfl,e⟩:=e2
  exact al (flatL_under 0 _ rfl) ((s91_eq J0  (ZF fr to) a1 H0 _).mpr (t91 fun r0 hr0=>by subst hr0; exact ⟨QE 0 _ rfl,fBx e⟩))
theorem q59_ok : Qe Tryz.prog 59 (w59 pLes):=(fk (Qc Qd) Tryz.func59).alone.imp fun xs h k e0=>by
  obtain ⟨a0,a1,rfl,e1⟩:=ZK e0
  obtain ⟨w,l,t,w',l',t',rfl,rfl,e⟩:=e1
  exact al (flatL_under 0 _ rfl) ((s59_eq J0  (VA w l t) (VA w' l' t') H0 _).mpr (t59 fun r0 hr0=>by subst hr0; exact ⟨QE 0 _ rfl,fBx e⟩))
theorem q137_ok : Qe Tryz.prog 137 (w137 Qdp):=(fk (Qc Qd) Tryz.func137).alone.imp fun xs h k e0=>by
  obtain ⟨a0,rfl,e1⟩:=Zg e0
  obtain ⟨a0,rfl,e2⟩:=QD.1 e1
  exact al (flatL_under 0 _ rfl) ((Qbv J0  a0 H0 _).mpr (t137 fun r0 hr0=>by subst hr0; exact ⟨QE 0 _ rfl,e2⟩))
theorem q138_ok : Qe Tryz.prog 138 (w138 Qdp):=(fk (Qc Qd) Tryz.func138).alone.imp fun xs h k e0=>by
  obtain ⟨a0,rfl,e1⟩:=Zg e0
  obtain ⟨a0,rfl,e2⟩:=QD.1 e1
  exact al (flatL_under 0 _ rfl) ((Qbt J0  a0 H0 _).mpr (t138 fun r0 hr0=>by subst hr0; exact ⟨QE 0 _ rfl,e2⟩))
theorem q212_ok : Qe Tryz.prog 212 (w212 QaB):=(fk (Qc Qd) Tryz.func212).alone.imp fun xs h k e0=>by
  obtain ⟨a0,rfl,e1⟩:=Zg e0
  obtain ⟨a0,rfl,e2⟩:=QI.1 e1
  exact al (flatL_under 0 _ rfl) ((Qbl J0  a0 H0 _).mpr (t212 fun r0 hr0=>by subst hr0; exact ⟨QE 0 _ rfl,e2⟩))
theorem q140_ok : Qe Tryz.prog 140 (w140 QaB):=(fk (Qc Qd) Tryz.func140).alone.imp fun xs h k e0=>by
  obtain ⟨a0,rfl,e1⟩:=Zg e0
  obtain ⟨a0,rfl,e2⟩:=QI.1 e1
  exact al (flatL_under 0 _ rfl) ((Qbp J0  a0 H0 _).mpr (t140 fun r0 hr0=>by subst hr0; exact ⟨QE 0 _ rfl,e2⟩))
theorem q87_ok : Qe Tryz.prog 87 (w87 Qdr):=(fk (Qa q137_ok (Qc Qd)) Tryz.func87).alone.imp fun xs h k e0=>by
  obtain ⟨a0,a1,rfl,e1⟩:=ZK e0
  obtain ⟨a0,rfl,e2⟩:=QD.1 e1
  obtain ⟨a1,rfl,e3⟩:=QD.1 e2
  exact al (flatL_under 0 _ rfl) ((QdL J0 Qdp a0 a1 H0 _).mpr (t87 fun r0 hr0=>by subst hr0; exact ⟨QE 0 _ rfl,e3⟩))
theorem q88_ok : Qe Tryz.prog 88 (w88 Qdr):=(fk (Qa q138_ok (Qc Qd)) Tryz.func88).alone.imp fun xs h k e0=>by
  obtain ⟨a0,a1,rfl,e1⟩:=ZK e0
  obtain ⟨a0,rfl,e2⟩:=QD.1 e1
  obtain ⟨a1,rfl,e3⟩:=QD.1 e2
  exact al (flatL_under 0 _ rfl) ((QdK J0 Qdp a0 a1 H0 _).mpr (t88 fun r0 hr0=>by subst hr0; exact ⟨QE 0 _ rfl,e3⟩))
theorem q139_ok : Qe Tryz.prog 139 (Nm pLsS):=(fk (Qa q212_ok (Qc Qd)) Tryz.func139).alone.imp fun xs h k e0=>by
  obtain ⟨a0,a1,rfl,e1⟩:=ZK e0
  obtain ⟨a0,rfl,e2⟩:=QI.1 e1
  obtain ⟨a1,rfl,e3⟩:=QI.1 e2
  exact al (flatL_under 0 _ rfl) ((Qbr J0 QaB a0 a1 H0 _).mpr (t139 fun r hr=>by subst hr; exact ⟨QE 0 _ rfl,fBx e3⟩))
theorem q86_ok : Qe Tryz.prog 86 (w86 pOr):=(fk (Qc Qd) Tryz.func86).imp fun xs h k e0=>by
  obtain ⟨a0,rfl,e1⟩:=Zg e0
  obtain ⟨l,q,hl,e⟩:=e1
  exact (QdM J0  a0 h k).mpr (t86 q hl e)
theorem QeB : Qe Tryz.prog 50 (w50 QeQ):=(fk (Qa q86_ok (Qa q87_ok (Qa q88_ok (Qc Qd)))) Tryz.func50).alone.imp fun xs h k e0=>by
  obtain ⟨a0,a1,rfl,e1⟩:=ZK e0
  obtain ⟨w,l,t,w',l',t',rfl,rfl,e⟩:=e1
  exact al (flatL_under 0 _ rfl) ((QdX J0 pOr Qdr Qdr (VA w l t) (VA w' l' t') H0 _).mpr (t50 fun r0 hr0=>by subst hr0; exact ⟨QE 0 _ rfl,e⟩))
theorem q136_ok : Qe Tryz.prog 136 (w136 pMet):=(fk (Qa QbI (Qc Qd)) Tryz.func136).alone.imp fun xs h k e0=>by
  obtain ⟨a0,a1,rfl,e1⟩:=ZK e0
  obtain ⟨af,at',bf,bt,rfl,rfl,e⟩:=e1
  exact al (flatL_under 0 _ rfl) ((Qbx J0 Nu (ZF af at') (ZF bf bt) H0 _).mpr (t136 fun r0 r1 hr0 hr1=>by subst hr0; subst hr1; exact ⟨by simp only [AV.under,AV.underL,V0]; cases met af at' bf bt <;> simp [ZF,AV.under,AV.underL],fBx e⟩))
theorem q143_ok : Qe Tryz.prog 143 (w143 QbR):=(fk (Qa q213_ok (Qc Qd)) Tryz.func143).alone.imp fun xs h k e0=>by
  obtain ⟨a0,a1,rfl,e1⟩:=ZK e0
  obtain ⟨af,at',bf,bt,rfl,rfl,e⟩:=e1
  exact al (flatL_under 0 _ rfl) ((s143_eq J0 Nu (ZF af at') (ZF bf bt) H0 _).mpr (t143 fun r0 r1 hr0 hr1=>by subst hr0; subst hr1; exact ⟨by simp only [AV.under,AV.underL,V0]; cases XP af at' bf bt <;> simp [ZF,AV.under,AV.underL],fBx e⟩))
theorem q142_ok : Qe Tryz.prog 142 (w142 pMid):=(fk (Qc Qd) Tryz.func142).alone.imp fun xs h k e0=>by
  obtain ⟨a0,rfl,e1⟩:=Zg e0
  obtain ⟨a0,rfl,e2⟩:=QI.1 e1
  obtain ⟨l,rfl,hl,e⟩:=e2
  exact al (flatL_under 0 _ rfl) ((s142_eq J0 (Str.of l) H0 _).mpr (t142 hl fun r hr=>⟨QE 0 _ rfl,e r hr⟩))
theorem q94_ok : Qe Tryz.prog 94 (w94 QeP):=(fk (Qa QbH (Qa q142_ok (Qc Qd))) Tryz.func94).alone.imp fun xs h k e0=>by
  obtain ⟨a0,rfl,e1⟩:=Zg e0
  obtain ⟨a0,rfl,e2⟩:=QI.1 e1
  obtain ⟨l,rfl,e⟩:=e2
  exact al (flatL_under 0 _ rfl) ((s94_eq J0 Jo pMid (Str.of l) H0 _).mpr (t94 fun a b c r hr=>by subst hr; exact ⟨QE 0 _ rfl,e a b c⟩))
theorem Qez : Qe Tryz.prog 56 (w56 GH):=(fk (Qa q94_ok (Qc Qd)) Tryz.func56).alone.imp fun xs h k e0=>by
  obtain ⟨a0,rfl,e1⟩:=Zg e0
  obtain ⟨a0,rfl,e2⟩:=QI.1 e1
  obtain ⟨l,rfl,e⟩:=e2
  exact al (flatL_under 0 _ rfl) ((s56_eq J0 QeP (Str.of l) H0 _).mpr (t56 fun r0 hr0=>by subst hr0; exact ⟨QE 0 _ rfl,fBx e⟩))
theorem q92_ok : Qe Tryz.prog 92 (w92 pIdx):=(fk (Qc Qd) Tryz.func92).imp fun xs h k e0=>by
  obtain ⟨a0,a1,rfl,e1⟩:=ZK e0
  obtain ⟨a1,rfl,e2⟩:=QI.1 e1
  obtain ⟨rfl,ks,q,hl,e⟩:=e2
  exact (QdH J0  a0 ⟨0,0⟩ h k).mpr (t92 q hl e)
theorem q53_ok : Qe Tryz.prog 53 (w53 pCon):=(fk (Qa q92_ok (Qc Qd)) Tryz.func53).imp fun xs h k e0=>by
  obtain ⟨a0,a1,rfl,e1⟩:=ZK e0
  obtain ⟨a1,rfl,e2⟩:=QI.1 e1
  obtain ⟨rfl,ks,q,hl,e⟩:=e2
  exact (QdV J0 pIdx a0 ⟨0,0⟩ h k).mpr (t53 q hl (fBx e))
theorem Nt : Qe Tryz.prog 24 (w24 V4):=(fk (Qa q53_ok (Qc Qd)) Tryz.func24).imp fun xs h k e0=>by
  obtain ⟨a0,rfl,e1⟩:=Zg e0
  obtain ⟨ks,q,e⟩:=e1
  exact (Qee J0 pCon a0 h k).mpr (t24 q e)
theorem Qav : Qe Tryz.prog 26 (w26 V4):=(fk (Qc Qd) Tryz.func26).imp fun xs h k e0=>by
  obtain ⟨a0,rfl,e1⟩:=Zg e0
  obtain ⟨ks,q,e⟩:=e1
  exact (s26_eq J0  a0 h k).mpr (t26 q e)
theorem q84_ok : Qe Tryz.prog 84 (w84 pRis):=(fk (Qc Qd) Tryz.func84).imp fun xs h k e0=>by
  obtain ⟨a0,rfl,e1⟩:=Zg e0
  obtain ⟨ks,q,hl,e⟩:=e1
  exact (QdP J0  a0 h k).mpr (t84 q hl (fBx e))
theorem q145_ok : Qe Tryz.prog 145 (Qdf pFin):=(fk (Qc Qd) Tryz.func145).imp fun xs h k e0=>by
  obtain ⟨a0,rfl,e1⟩:=Zg e0
  obtain ⟨ks,q,hl,e⟩:=e1
  exact (s145_eq J0  a0 h k).mpr (t145 q hl (by rw [Bool.and_comm]; exact fBx e))
theorem QeE : Qe Tryz.prog 47 (w47 KT):=(fk (Qa QeG (Qc Qd)) Tryz.func47).imp fun xs h k e0=>by
  obtain ⟨a0,rfl,e1⟩:=Zg e0
  obtain ⟨ks,q,hl,e⟩:=e1
  exact (Qd0 J0 Jo a0 h k).mpr (t47 q hl (fBx e))
theorem Qas : Qe Tryz.prog 64 (w64 KT):=(fk (Qa Qez (Qc Qd)) Tryz.func64).imp fun xs h k e0=>by
  obtain ⟨a0,rfl,e1⟩:=Zg e0
  obtain ⟨ks,q,hl,e⟩:=e1
  exact (s64_eq J0 GH a0 h k).mpr (t64 q hl (fBx e))
theorem q58_ok : Qe Tryz.prog 58 (w58 Gm):=(fk (Qa Ns (Qc Qd)) Tryz.func58).imp fun xs h k e0=>by
  obtain ⟨a0,rfl,e1⟩:=Zg e0
  obtain ⟨l,q,hl,e⟩:=e1
  exact (s58_eq J0 UP a0 h k).mpr (t58 q hl (fBx e))
theorem q60_ok : Qe Tryz.prog 60 (w60 pPnd):=(fk (Qa QeA (Qc Qd)) Tryz.func60).imp fun xs h k e0=>by
  obtain ⟨a0,rfl,e1⟩:=Zg e0
  obtain ⟨l,q,hl,e⟩:=e1
  exact (s60_eq J0 QeM a0 h k).mpr (t60 q hl (fBx e))
theorem q89_ok : Qe Tryz.prog 89 (w89 pSrc):=(fk (Qa q139_ok (Qa q140_ok (Qc Qd))) Tryz.func89).imp fun xs h k e0=>by
  obtain ⟨a0,a1,rfl,e1⟩:=ZK e0
  obtain ⟨a1,rfl,e2⟩:=QI.1 e1
  obtain ⟨ks,key,rfl,q,hl,had,e⟩:=e2
  exact (QdJ J0 pLsS QaB a0 (Str.of key) h k).mpr (t89 q hl had e)
theorem q51_ok : Qe Tryz.prog 51 (w51 pOf):=(fk (Qa Nt (Qa q89_ok (Qc Qd))) Tryz.func51).imp fun xs h k e0=>by
  obtain ⟨a0,a1,rfl,e1⟩:=ZK e0
  obtain ⟨a1,rfl,e2⟩:=QI.1 e1
  obtain ⟨ks,key,rfl,q,hc,e⟩:=e2
  exact (QdW J0 V4 pSrc a0 (Str.of key) h k).mpr (t51 q hc e)
theorem q20_ok : Qe Tryz.prog 20 (w20 DP):=(fk (Qa q51_ok (Qc Qd)) Tryz.func20).imp fun xs h k e0=>by
  obtain ⟨a0,a1,a2,rfl,e1⟩:=QfL e0
  obtain ⟨a1,rfl,e2⟩:=QI.1 e1
  obtain ⟨a2,rfl,e3⟩:=QD.1 e2
  obtain ⟨ks,key,rfl,q,hc,hx,e⟩:=e3
  exact (Qei J0 pOf a0 (Str.of key) a2 h k).mpr (t20 q hc hx e)
theorem Qey : Qe Tryz.prog 90 (w90 f90):=g90_ok
theorem q82_ok : Qe Tryz.prog 82 (w82 f82):=QaI
theorem q97_ok : Qe Tryz.prog 97 (w97 f97):=g97_ok
theorem q19_ok : Qe Tryz.prog 19 (w19 f19):=Qfw
theorem QeI : Qe Tryz.prog 21 (w21 f21):=g21_ok
theorem q5_ok : Qe Tryz.prog 5 (w5 f5):=g5_ok
theorem Qaw : Qe Tryz.prog 17 (w17 Gm):=(fk (Qa Qau (Qc Qd)) Tryz.func17).lease.imp fun xs h k e0=>by
  obtain ⟨a0,rfl,e1⟩:=Zg e0
  obtain ⟨l,q,hl,e⟩:=e1
  obtain ⟨v0,b0,b1,b2,b3,b4,b5,ρ,l0,q0,e0,u0⟩:=le1 q fun _=>rfl
  exact ⟨_,_,[v0],by simp only [AV.renL,e0],⟨u0,trivial⟩,l0,(Qel J0 UP v0 _ _).mpr (t17 q0 hl (Nat.le_refl 6) fun h'=>⟨_,Less.refl _,rfl,fBx e⟩)⟩
theorem q54_ok : Qe Tryz.prog 54 (w54 pNew):=(fk (Qc Qd) Tryz.func54).lease.imp fun xs h k e0=>by
  obtain ⟨a0,rfl,e1⟩:=Zg e0
  obtain ⟨l,q,hl,e⟩:=e1
  obtain ⟨v0,b0,b1,b2,b3,b4,b5,ρ,l0,q0,e0,u0⟩:=le1 q fun _=>rfl
  exact ⟨_,_,[v0],by simp only [AV.renL,e0],⟨u0,trivial⟩,l0,(QdU J0  v0 _ _).mpr (t54 q0 hl fun a h'=>⟨_,Less.tup _ _,rfl,e⟩)⟩
theorem q25_ok : Qe Tryz.prog 25 (w25 Qdn):=(fk (Qa q54_ok (Qc Qd)) Tryz.func25).lease.imp fun xs h k e0=>by
  obtain ⟨a0,rfl,e1⟩:=Zg e0
  obtain ⟨vh,hs,per,bits,top,most,rfl,q,hl,e⟩:=e1
  obtain ⟨v0,b0,b1,b2,b3,b4,b5,ρ,l0,q0,e0,u0⟩:=le1 q fun _=>rfl
  exact ⟨_,_,[(.agg (U0 v0 per bits top most))],by simp only [AV.renL,AV.ren,U0,e0],by simp only [AV.underL,AV.under,U0,and_true,true_and]; exact u0,l0,(Qec J0 pNew (.agg (U0 v0 per bits top most)) _ _).mpr (t25 q0 hl fun r hr=>by subst hr; exact ⟨_,Less.refl _,rfl,e⟩)⟩
theorem q27_ok : Qe Tryz.prog 27 (w27 Qdn):=(fk (Qc Qd) Tryz.func27).lease.imp fun xs h k e0=>by
  obtain ⟨a0,rfl,e1⟩:=Zg e0
  obtain ⟨vh,hs,per,bits,top,most,rfl,q,hl,e⟩:=e1
  obtain ⟨v0,b0,b1,b2,b3,b4,b5,ρ,l0,q0,e0,u0⟩:=le1 q fun _=>rfl
  exact ⟨_,_,[(.agg (U0 v0 per bits top most))],by simp only [AV.renL,AV.ren,U0,e0],by simp only [AV.underL,AV.under,U0,and_true,true_and]; exact u0,l0,(s27_eq J0  (.agg (U0 v0 per bits top most)) _ _).mpr (t27 q0 hl fun r hr=>by subst hr; exact ⟨_,Less.refl _,rfl,e⟩)⟩
theorem q135_ok : Qe Tryz.prog 135 (w135 pSpn):=(fk (Qa Nt (Qc Qd)) Tryz.func135).lease.imp fun xs h k e0=>by
  obtain ⟨a0,a1,rfl,e1⟩:=ZK e0
  obtain ⟨a1,rfl,e2⟩:=QD.1 e1
  obtain ⟨ks,i,rfl,q,hc,hi,e⟩:=e2
  obtain ⟨v0,b0,b1,b2,b3,b4,b5,ρ,l0,q0,e0,u0⟩:=le1 q fun _=>rfl
  exact ⟨_,_,[v0,(.int .i64 (Int.ofNat i))],by simp only [AV.renL,AV.ren,e0],by simp only [AV.underL,AV.under,and_true,true_and]; exact u0,l0,(Qby J0 V4 v0 (Int.ofNat i) _ _).mpr (t135 q0 hc hi fun r x hr hx=>by subst hr hx; exact ⟨_,Less.refl _,rfl,e⟩)⟩
theorem QeF : Qe Tryz.prog 46 (w46 Gn):=(fk (Qa Qau (Qa Qar (Qa q84_ok (Qc Qd)))) Tryz.func46).lease.imp fun xs h k e0=>by
  obtain ⟨a0,rfl,e1⟩:=Zg e0
  obtain ⟨n,m,st,w,l,t,v,beat,pw,pl,pt,ks,rfl,q,hl,e⟩:=e1
  obtain ⟨v0,b0,b1,b2,b3,b4,b5,ρ,l0,q0,e0,u0⟩:=le1 q fun _=>rfl
  exact ⟨_,_,[(.agg (J4 n m st w l t v0 beat pw pl pt))],by simp only [AV.renL,AV.ren,J4,e0],by simp only [AV.underL,AV.under,J4,and_true,true_and]; exact u0,l0,(Qd1 J0 UP Jp pRis (.agg (J4 n m st w l t v0 beat pw pl pt)) _ _).mpr (t46 q0 hl fun r hr=>by subst hr; exact ⟨_,Less.refl _,rfl,e⟩)⟩
theorem Qex : Qe Tryz.prog 98 (w98 Gn):=(fk (Qa Ns (Qa Qaq (Qa q145_ok (Qc Qd)))) Tryz.func98).lease.imp fun xs h k e0=>by
  obtain ⟨a0,rfl,e1⟩:=Zg e0
  obtain ⟨n,m,st,w,l,t,v,beat,pw,pl,pt,ks,rfl,q,hl,e⟩:=e1
  obtain ⟨v0,b0,b1,b2,b3,b4,b5,ρ,l0,q0,e0,u0⟩:=le1 q fun _=>rfl
  exact ⟨_,_,[(.agg (J4 n m st w l t v0 beat pw pl pt))],by simp only [AV.renL,AV.ren,J4,e0],by simp only [AV.underL,AV.under,J4,and_true,true_and]; exact u0,l0,(s98_eq J0 UP Jp pFin (.agg (J4 n m st w l t v0 beat pw pl pt)) _ _).mpr (t98 q0 hl fun r hr=>by subst hr; exact ⟨_,Less.refl _,rfl,e⟩)⟩
theorem q52_ok : Qe Tryz.prog 52 (w52 pOf):=(fk (Qa Qav (Qa Qey (Qa q91_ok (Qc Qd)))) Tryz.func52).lease.imp fun xs h k e0=>by
  obtain ⟨a0,a1,rfl,e1⟩:=ZK e0
  obtain ⟨a1,rfl,e2⟩:=QI.1 e1
  obtain ⟨ks,key,rfl,q,hc,e⟩:=e2
  obtain ⟨v0,b0,b1,b2,b3,b4,b5,ρ,l0,q0,e0,u0⟩:=le1 q fun _=>rfl
  exact ⟨_,_,[v0,(.str (Str.of key))],by simp only [AV.renL,AV.ren,e0],by simp only [AV.underL,AV.under,and_true,true_and]; exact u0,l0,(s52_eq J0 V4 f90 pHas v0 (Str.of key) _ _).mpr (t52 q0 (Nat.le_refl 6) hc fun h'=>⟨_,Less.refl _,rfl,e⟩)⟩
theorem QeH : Qe Tryz.prog 22 (w22 DP):=(fk (Qa q52_ok (Qc Qd)) Tryz.func22).imp fun xs h k e0=>by
  obtain ⟨a0,a1,a2,rfl,e1⟩:=QfL e0
  obtain ⟨a1,rfl,e2⟩:=QI.1 e1
  obtain ⟨a2,rfl,e3⟩:=QD.1 e2
  obtain ⟨ks,key,rfl,q,hc,hx,e⟩:=e3
  exact (s22_eq J0 pOf a0 (Str.of key) a2 h k).mpr (t22 q hc hx e)
theorem q8_ok : Qe Tryz.prog 8 (w8 KU):=(fk (Qa q23_ok (Qa Nt (Qa q25_ok (Qc Qd)))) Tryz.func8).lease.imp fun xs h k e0=>by
  obtain ⟨a0,rfl,e1⟩:=Zg e0
  obtain ⟨C,rfl,c,e⟩:=e1
  obtain ⟨v0,v1,b0,b1,b2,b3,b4,b5,ρ,l0,c0,e0,u0⟩:=leC c
  exact ⟨_,_,[(.agg (QG (wC C v0 v1)))],by simp only [AV.renL,e0],⟨u0,trivial⟩,l0,(s8_eq J0 pCnt V4 Qdn (.agg (QG (wC C v0 v1))) _ _).mpr (t8 c0 fun r hr=>by subst hr; exact ⟨_,Less.refl _,rfl,e⟩)⟩
theorem q9_ok : Qe Tryz.prog 9 (w9 KU):=(fk (Qa Qav (Qa q27_ok (Qc Qd))) Tryz.func9).lease.imp fun xs h k e0=>by
  obtain ⟨a0,rfl,e1⟩:=Zg e0
  obtain ⟨C,rfl,c,e⟩:=e1
  obtain ⟨v0,v1,b0,b1,b2,b3,b4,b5,ρ,l0,c0,e0,u0⟩:=leC c
  exact ⟨_,_,[(.agg (QG (wC C v0 v1)))],by simp only [AV.renL,e0],⟨u0,trivial⟩,l0,(s9_eq J0 V4 Qdn (.agg (QG (wC C v0 v1))) _ _).mpr (t9 c0 fun r hr=>by subst hr; exact ⟨_,Less.refl _,rfl,e⟩)⟩
theorem q85_ok : Qe Tryz.prog 85 (w85 f85):=(fk (Qa Nt (Qa QbI (Qa q135_ok (Qa q136_ok (Qc Qd))))) Tryz.func85).imp fun xs h k e0=>by
  obtain ⟨a0,a1,rfl,e1⟩:=ZK e0
  exact (QdN J0 V4 Nu pSpn pMet a0 a1 h k).mpr e1
theorem q95_ok : Qe Tryz.prog 95 (w95 f95):=(fk (Qa Qav (Qa Qey (Qa q143_ok (Qc Qd)))) Tryz.func95).imp fun xs h k e0=>by
  obtain ⟨a0,a1,rfl,e1⟩:=ZK e0
  exact (s95_eq J0 V4 f90 QbR a0 a1 h k).mpr e1
theorem QeC : Qe Tryz.prog 49 (w49 DO):=(fk (Qa q85_ok (Qc Qd)) Tryz.func49).lease.imp fun xs h k e0=>by
  obtain ⟨a0,a1,rfl,e1⟩:=ZK e0
  obtain ⟨C,fr,to,rfl,rfl,c,hok,e⟩:=e1
  obtain ⟨v0,v1,b0,b1,b2,b3,b4,b5,ρ,l0,c0,e0,u0⟩:=leC c
  exact ⟨_,_,[(.agg (QG (wC C v0 v1))),(ZF fr to)],by simp only [AV.renL,e0]; simp only [AV.ren,AV.renL,ZF],⟨u0,QE _ _ rfl,trivial⟩,l0,(QdY J0 f85 (.agg (QG (wC C v0 v1))) (ZF fr to) _ _).mpr (t49 (C:=wC C v0 v1) c0 (Nat.le_refl 6) hok fun h'=>⟨_,Less.refl _,rfl,fBx e⟩)⟩
theorem q57_ok : Qe Tryz.prog 57 (w57 DO):=(fk (Qa q95_ok (Qc Qd)) Tryz.func57).lease.imp fun xs h k e0=>by
  obtain ⟨a0,a1,rfl,e1⟩:=ZK e0
  obtain ⟨C,fr,to,rfl,rfl,c,hok,e⟩:=e1
  obtain ⟨v0,v1,b0,b1,b2,b3,b4,b5,ρ,l0,c0,e0,u0⟩:=leC c
  exact ⟨_,_,[(.agg (QG (wC C v0 v1))),(ZF fr to)],by simp only [AV.renL,e0]; simp only [AV.ren,AV.renL,ZF],⟨u0,QE _ _ rfl,trivial⟩,l0,(s57_eq J0 f95 (.agg (QG (wC C v0 v1))) (ZF fr to) _ _).mpr (t57 (C:=wC C v0 v1) c0 (Nat.le_refl 6) hok fun h'=>⟨_,Less.refl _,rfl,fBx e⟩)⟩
theorem q45_ok : Qe Tryz.prog 45 (w45 Qdm):=(fk (Qa QeF (Qa QeE (Qc Qd))) Tryz.func45).lease.imp fun xs h k e0=>by
  obtain ⟨a0,rfl,e1⟩:=Zg e0
  obtain ⟨X,rfl,x,e⟩:=e1
  obtain ⟨v2,v3,v4,v5,b0,b1,b2,b3,b4,b5,ρ,l0,x0,e0,u0⟩:=leX x
  exact ⟨_,_,[(.agg (Qx (wX X v2 v3 v4 v5)))],by simp only [AV.renL,e0],⟨u0,trivial⟩,l0,(Qd2 J0 Gn KT (.agg (Qx (wX X v2 v3 v4 v5))) _ _).mpr (t45 x0 fun r hr=>by subst hr; exact ⟨_,Less.refl _,rfl,fBx e⟩)⟩
theorem q62_ok : Qe Tryz.prog 62 (w62 Qdm):=(fk (Qa Qas (Qa Qex (Qc Qd))) Tryz.func62).lease.imp fun xs h k e0=>by
  obtain ⟨a0,rfl,e1⟩:=Zg e0
  obtain ⟨X,rfl,x,e⟩:=e1
  obtain ⟨v2,v3,v4,v5,b0,b1,b2,b3,b4,b5,ρ,l0,x0,e0,u0⟩:=leX x
  exact ⟨_,_,[(.agg (Qx (wX X v2 v3 v4 v5)))],by simp only [AV.renL,e0],⟨u0,trivial⟩,l0,(s62_eq J0 KT Gn (.agg (Qx (wX X v2 v3 v4 v5))) _ _).mpr (t62 x0 fun r hr=>by subst hr; exact ⟨_,Less.refl _,rfl,fBx e⟩)⟩
theorem q63_ok : Qe Tryz.prog 63 (w63 pOvr):=(fk (Qa Qas (Qa Qex (Qc Qd))) Tryz.func63).lease.imp fun xs h k e0=>by
  obtain ⟨a0,rfl,e1⟩:=Zg e0
  obtain ⟨X,rfl,x,e⟩:=e1
  obtain ⟨v2,v3,v4,v5,b0,b1,b2,b3,b4,b5,ρ,l0,x0,e0,u0⟩:=leX x
  exact ⟨_,_,[(.agg (Qx (wX X v2 v3 v4 v5)))],by simp only [AV.renL,e0],⟨u0,trivial⟩,l0,(s63_eq J0 KT Gn (.agg (Qx (wX X v2 v3 v4 v5))) _ _).mpr (t63 x0 fun r hr=>by subst hr; exact ⟨_,Less.refl _,rfl,fBx e⟩)⟩
theorem q44_ok : Qe Tryz.prog 44 (w44 Qdo):=(fk (Qa q82_ok (Qa q83_ok (Qc Qd))) Tryz.func44).lease.imp fun xs h k e0=>by
  obtain ⟨a0,rfl,e1⟩:=Zg e0
  obtain ⟨X,rfl,x,e⟩:=e1
  obtain ⟨v2,v3,v4,v5,b0,b1,b2,b3,b4,b5,ρ,l0,x0,e0,u0⟩:=leX x
  exact ⟨_,_,[(.agg (Qx (wX X v2 v3 v4 v5)))],by simp only [AV.renL,e0],⟨u0,trivial⟩,l0,(Qd3 J0 f82 QaC (.agg (Qx (wX X v2 v3 v4 v5))) _ _).mpr (t44 x0 (Nat.le_refl 6) fun h'=>⟨_,Less.refl _,rfl,fBx e⟩)⟩
theorem q61_ok : Qe Tryz.prog 61 (w61 Qdo):=(fk (Qa q96_ok (Qa q97_ok (Qc Qd))) Tryz.func61).lease.imp fun xs h k e0=>by
  obtain ⟨a0,rfl,e1⟩:=Zg e0
  obtain ⟨X,rfl,x,e⟩:=e1
  obtain ⟨v2,v3,v4,v5,b0,b1,b2,b3,b4,b5,ρ,l0,x0,e0,u0⟩:=leX x
  exact ⟨_,_,[(.agg (Qx (wX X v2 v3 v4 v5)))],by simp only [AV.renL,e0],⟨u0,trivial⟩,l0,(s61_eq J0 QaC f97 (.agg (Qx (wX X v2 v3 v4 v5))) _ _).mpr (t61 x0 (Nat.le_refl 6) fun h'=>⟨_,Less.refl _,rfl,fBx e⟩)⟩
theorem q43_ok : Qe Tryz.prog 43 (w43 pScn):=(fk (Qa Qaw (Qa Qat (Qa QeD (Qa QeC (Qa QeB (Qc Qd)))))) Tryz.func43).lease.imp fun xs h k e0=>by
  obtain ⟨a0,a1,rfl,e1⟩:=ZK e0
  obtain ⟨C,X,rfl,rfl,c,x,hok,e⟩:=e1
  obtain ⟨v0,v1,v2,v3,v4,v5,b0,b1,b2,b3,b4,b5,ρ,l0,c0,x0,e0,e1,u0,u1⟩:=leB c x
  exact ⟨_,_,[(.agg (QG (wC C v0 v1))),(.agg (Qx (wX X v2 v3 v4 v5)))],by simp only [AV.renL,e0,e1],⟨u0,u1,trivial⟩,l0,(Qd4 J0 Gm QaA QeN DO QeQ (.agg (QG (wC C v0 v1))) (.agg (Qx (wX X v2 v3 v4 v5))) _ _).mpr (t43 (C:=wC C v0 v1) c0 x0 (Nat.le_refl 6) hok fun h'=>⟨_,Less.refl _,rfl,fBx e⟩)⟩
theorem q18_ok : Qe Tryz.prog 18 (w18 Qdq):=(fk (Qa Qaw (Qa Qat (Qa QeG (Qa q43_ok (Qa q44_ok (Qa q45_ok (Qa QeF (Qa QeE (Qa QeD (Qa QeC (Qa QeB (Qc Qd)))))))))))) Tryz.func18).lease.imp fun xs h k e0=>by
  obtain ⟨a0,a1,rfl,e1⟩:=ZK e0
  obtain ⟨C,X,rfl,rfl,c,x,hok,e⟩:=e1
  obtain ⟨v0,v1,v2,v3,v4,v5,b0,b1,b2,b3,b4,b5,ρ,l0,c0,x0,e0,e1,u0,u1⟩:=leB c x
  exact ⟨_,_,[(.agg (QG (wC C v0 v1))),(.agg (Qx (wX X v2 v3 v4 v5)))],by simp only [AV.renL,e0,e1],⟨u0,u1,trivial⟩,l0,(Qek J0 Gm QaA Jo pScn Qdo Qdm Gn KT QeN DO QeQ (.agg (QG (wC C v0 v1))) (.agg (Qx (wX X v2 v3 v4 v5))) _ _).mpr (t18 (C:=wC C v0 v1) c0 x0 hok fun r hr=>by subst hr; exact ⟨_,Less.refl _,rfl,fBx e⟩)⟩
theorem q29_ok : Qe Tryz.prog 29 (w29 Qdq):=(fk (Qa QeA (Qa Qez (Qa q57_ok (Qa q58_ok (Qa q59_ok (Qa q60_ok (Qa q61_ok (Qa q62_ok (Qa q63_ok (Qa Qas (Qc Qd))))))))))) Tryz.func29).lease.imp fun xs h k e0=>by
  obtain ⟨a0,a1,rfl,e1⟩:=ZK e0
  obtain ⟨C,X,rfl,rfl,c,x,hok,e⟩:=e1
  obtain ⟨v0,v1,v2,v3,v4,v5,b0,b1,b2,b3,b4,b5,ρ,l0,c0,x0,e0,e1,u0,u1⟩:=leB c x
  exact ⟨_,_,[(.agg (QG (wC C v0 v1))),(.agg (Qx (wX X v2 v3 v4 v5)))],by simp only [AV.renL,e0,e1],⟨u0,u1,trivial⟩,l0,(s29_eq J0 QeM GH DO Gm pLes pPnd Qdo Qdm pOvr KT (.agg (QG (wC C v0 v1))) (.agg (Qx (wX X v2 v3 v4 v5))) _ _).mpr (t29 (C:=wC C v0 v1) c0 x0 hok fun r hr=>by subst hr; exact ⟨_,Less.refl _,rfl,fBx e⟩)⟩
theorem q6_ok : Qe Tryz.prog 6 (w6 Gp):=(fk (Qa q8_ok (Qa Qaw (Qa q18_ok (Qa q19_ok (Qa q20_ok (Qc Qd)))))) Tryz.func6).lease.imp fun xs h k e0=>by
  obtain ⟨a0,a1,rfl,e1⟩:=ZK e0
  obtain ⟨C,X,rfl,rfl,c,x,e⟩:=e1
  obtain ⟨v0,v1,v2,v3,v4,v5,b0,b1,b2,b3,b4,b5,ρ,l0,c0,x0,e0,e1,u0,u1⟩:=leB c x
  exact ⟨_,_,[(.agg (QG (wC C v0 v1))),(.agg (Qx (wX X v2 v3 v4 v5)))],by simp only [AV.renL,e0,e1],⟨u0,u1,trivial⟩,l0,(s6_eq J0 KU Gm Qdq f19 DP (.agg (QG (wC C v0 v1))) (.agg (Qx (wX X v2 v3 v4 v5))) _ _).mpr (t6 (C:=wC C v0 v1) c0 x0 (Nat.le_refl 6) fun h'=>⟨_,Less.refl _,rfl,e⟩)⟩
theorem QeJ : Qe Tryz.prog 11 (w11 Gq):=(fk (Qa q9_ok (Qa QeI (Qa QeH (Qa Ns (Qa q29_ok (Qc Qd)))))) Tryz.func11).lease.imp fun xs h k e0=>by
  obtain ⟨a0,a1,rfl,e1⟩:=ZK e0
  obtain ⟨C,X,rfl,rfl,c,x,e⟩:=e1
  obtain ⟨v0,v1,v2,v3,v4,v5,b0,b1,b2,b3,b4,b5,ρ,l0,c0,x0,e0,e1,u0,u1⟩:=leB c x
  exact ⟨_,_,[(.agg (QG (wC C v0 v1))),(.agg (Qx (wX X v2 v3 v4 v5)))],by simp only [AV.renL,e0,e1],⟨u0,u1,trivial⟩,l0,(s11_eq J0 KU f21 DP UP Qdq (.agg (QG (wC C v0 v1))) (.agg (Qx (wX X v2 v3 v4 v5))) _ _).mpr (t11 (C:=wC C v0 v1) c0 x0 (Nat.le_refl 6) fun h'=>⟨_,Less.refl _,rfl,e⟩)⟩
theorem q7_ok : Qe Tryz.prog 7 (w7 Gp):=(fk (Qa QeJ (Qa QeI (Qa QeH (Qc Qd)))) Tryz.func7).lease.imp fun xs h k e0=>by
  obtain ⟨a0,a1,rfl,e1⟩:=ZK e0
  obtain ⟨C,X,rfl,rfl,c,x,e⟩:=e1
  obtain ⟨v0,v1,v2,v3,v4,v5,b0,b1,b2,b3,b4,b5,ρ,l0,c0,x0,e0,e1,u0,u1⟩:=leB c x
  exact ⟨_,_,[(.agg (QG (wC C v0 v1))),(.agg (Qx (wX X v2 v3 v4 v5)))],by simp only [AV.renL,e0,e1],⟨u0,u1,trivial⟩,l0,(s7_eq J0 Gq f21 DP (.agg (QG (wC C v0 v1))) (.agg (Qx (wX X v2 v3 v4 v5))) _ _).mpr (t7 (C:=wC C v0 v1) c0 x0 (Nat.le_refl 6) fun h'=>⟨_,Less.refl _,rfl,e⟩)⟩
theorem q10_ok : Qe Tryz.prog 10 (w10 Gq):=(fk (Qa q6_ok (Qc Qd)) Tryz.func10).lease.imp fun xs h k e0=>by
  obtain ⟨a0,a1,rfl,e1⟩:=ZK e0
  obtain ⟨C,X,rfl,rfl,c,x,e⟩:=e1
  obtain ⟨v0,v1,v2,v3,v4,v5,b0,b1,b2,b3,b4,b5,ρ,l0,c0,x0,e0,e1,u0,u1⟩:=leB c x
  exact ⟨_,_,[(.agg (QG (wC C v0 v1))),(.agg (Qx (wX X v2 v3 v4 v5)))],by simp only [AV.renL,e0,e1],⟨u0,u1,trivial⟩,l0,(s10_eq J0 Gp (.agg (QG (wC C v0 v1))) (.agg (Qx (wX X v2 v3 v4 v5))) _ _).mpr (t10 (C:=wC C v0 v1) c0 x0 (Nat.le_refl 6) fun h'=>⟨_,Less.refl _,rfl,e⟩)⟩
end Go.Proofs.YtodlaigjjknpkaaGreatDoor
