import Derived.Test.YtodlaigjjknpkaaGreatDoorSvK
noncomputable section
namespace Go.Proofs.YtodlaigjjknpkaaGreatDoor
open Go Go.Am
set_option linter.all false
set_option maxRecDepth 100000
def J9 (w l t : Int) : Bool:=eqI w (Int.ofNat 0) && (eqI l (Int.ofNat 0) && eqI t (Int.ofNat 0))
theorem aBin29' (w l t : Int) : Option.map AV.bool (Bool.rec (motive:=fun _=>Option Bool) (some false) (Bool.rec (motive:=fun _=>Option Bool) (some false) (Bool.rec (motive:=fun _=>Option Bool) (some false) (some true) (eqI t (Int.ofNat 0))) (eqI l (Int.ofNat 0))) (eqI w (Int.ofNat 0))) =
    Wt ty .eql 29 false (.agg [.int .i64 w,.int .i32 l,.int .i32 t]) (.agg [.int .i64 (Int.ofNat 0),.int .i32 (Int.ofNat 0),.int .i32 (Int.ofNat 0)]):=by
  kernel_rfl
theorem aBin29n' (w l t : Int) : Option.map (fun b=>AV.bool (Bool.not b)) (Bool.rec (motive:=fun _=>Option Bool) (some false) (Bool.rec (motive:=fun _=>Option Bool) (some false) (Bool.rec (motive:=fun _=>Option Bool) (some false) (some true) (eqI t (Int.ofNat 0))) (eqI l (Int.ofNat 0))) (eqI w (Int.ofNat 0))) =
    Wt ty .neq 29 false (.agg [.int .i64 w,.int .i32 l,.int .i32 t]) (.agg [.int .i64 (Int.ofNat 0),.int .i32 (Int.ofNat 0),.int .i32 (Int.ofNat 0)]):=by
  kernel_rfl
theorem Dr (w l t : Int) : Wt ty .eql 29 false (.agg [.int .i64 w,.int .i32 l,.int .i32 t]) (.agg [.int .i64 0,.int .i32 0,.int .i32 0]) = some (.bool (J9 w l t)):=by
  refine (aBin29' w l t).symm.trans ?_
  unfold J9
  cases eqI w (Int.ofNat 0) <;> cases eqI l (Int.ofNat 0) <;> cases eqI t (Int.ofNat 0) <;> rfl
theorem Xq (w l t : Int) : Wt ty .neq 29 false (.agg [.int .i64 w,.int .i32 l,.int .i32 t]) (.agg [.int .i64 0,.int .i32 0,.int .i32 0]) = some (.bool (!(J9 w l t))):=by
  refine (aBin29n' w l t).symm.trans ?_
  unfold J9
  cases eqI w (Int.ofNat 0) <;> cases eqI l (Int.ofNat 0) <;> cases eqI t (Int.ofNat 0) <;> rfl
def QfD (ks : List (List UInt8)) : Bool:=ltI (Int.ofNat 0) (Int.ofNat ks.length) && Gt neB ks
def okR (n m st w l t : Int) (ks : List (List UInt8)) (beat pw pl pt : Int) : Bool :=
  okT n m && (!(ltI beat (Int.ofNat 0)) && (!(ltI (Int.ofNat 1099511627776) beat) && (okS pw pl pt &&
    cond (eqI st (Int.ofNat 1) || eqI st (Int.ofNat 4)) (J9 w l t && eqI (Int.ofNat ks.length) (Int.ofNat 0))
      (cond (eqI st (Int.ofNat 2) || eqI st (Int.ofNat 3)) (okS w l t && (eqI t (Qam n m) && QfD ks)) false))))
def Df (n m st w l t : Int) (ks : List (List UInt8)) (beat pw pl pt : Int) : Int:=cond (ltI (Int.ofNat 24) (Int.ofNat ks.length)) (Int.ofNat 3) (bad (okR n m st w l t ks beat pw pl pt))
def pRis : AV→H→(Bool→H→Prop)→Prop:=fun v h k=>∃ ks,QY h v ks ∧ ks.length ≤ 1000000 ∧ fB (Gt neB ks) fun b=>k b h
def pFin : AV→H→(Bool→H→Prop)→Prop:=fun v h k=>∃ ks,QY h v ks ∧ ks.length ≤ 1000000 ∧ fB (QfD ks) fun b=>k b h
def Gn : AV→H→(Int→H→Prop)→Prop:=fun a h k=>∃ n m st w l t v beat pw pl pt ks,a = .agg (J4 n m st w l t v beat pw pl pt) ∧ QY h v ks ∧ ks.length ≤ 1000000 ∧ k (Df n m st w l t ks beat pw pl pt) h
theorem finB_nil : QfD [] = false:=rfl
theorem z1 : ltI (24 : Int) 0 = false:=rfl
theorem z2 : eqI (0 : Int) 0 = true:=rfl
theorem z3 : ltI (0 : Int) 0 = false:=rfl
section
variable {K : Int→Prop} {b0 b1 b2 b3 b4 b5 : Blk}
theorem t46 {n m st w l t beat pw pl pt : Int} {v : AV} {ks : List (List UInt8)} (q : QY (HX b0 b1 b2 b3 b4 b5) v ks) (hl : ks.length ≤ 1000000) (hk : ∀ r,r = Df n m st w l t ks beat pw pl pt→K r) :
    s46G J0 UP Jp pRis (.agg (J4 n m st w l t v beat pw pl pt)) (HX b0 b1 b2 b3 b4 b5) fun r _=>K r:=by
  have q':=q
  rcases q with ⟨rfl,rfl⟩ | ⟨id,c,ex,mm,tt,rfl,q2,q3⟩
  · (repeat' ((conv=>whnf); (first | exact hk _ (by simp_all [Df,okR,QfD,z1,z2,z3,Zu,Zv,QA,QT]) | refine ⟨_,RowAt.low q' (n:=6) (by (((try (simp only [Qh,QL,HX,Nat.succ_eq_add_one,Nat.reduceAdd])); refine ⟨rfl,Nat.le_of_ble_eq_true rfl,fun id hid=>?_⟩; match id,hid with | 0,_=>rfl | 1,_=>rfl | 2,_=>rfl | 3,_=>rfl | 4,_=>rfl | 5,_=>rfl | n + 6,hn=>exact absurd hn (by omega)))) (Nat.le_refl 6),hl,?_⟩ | refine ⟨_,_,rfl,?_⟩ | refine ⟨_,_,_,rfl,?_⟩ | (rw [Dr]; generalize hnb : J9 _ _ _ = nb; cases nb) | (rw [Xq]; generalize hnb : J9 _ _ _ = nb; cases nb) | refine QC (fun _=>?_) (fun _=>?_))))
  · clear q2 q3
    (repeat' ((conv=>whnf); (first | exact hk _ (by simp_all [Df,okR,QfD,Zu,Zv,QA,QT]) | refine ⟨_,RowAt.low q' (n:=6) (by (((try (simp only [Qh,QL,HX,Nat.succ_eq_add_one,Nat.reduceAdd])); refine ⟨rfl,Nat.le_of_ble_eq_true rfl,fun id hid=>?_⟩; match id,hid with | 0,_=>rfl | 1,_=>rfl | 2,_=>rfl | 3,_=>rfl | 4,_=>rfl | 5,_=>rfl | n + 6,hn=>exact absurd hn (by omega)))) (Nat.le_refl 6),hl,?_⟩ | refine ⟨_,_,rfl,?_⟩ | refine ⟨_,_,_,rfl,?_⟩ | (rw [Dr]; generalize hnb : J9 _ _ _ = nb; cases nb) | (rw [Xq]; generalize hnb : J9 _ _ _ = nb; cases nb) | refine QC (fun _=>?_) (fun _=>?_))))
theorem t98 {n m st w l t beat pw pl pt : Int} {v : AV} {ks : List (List UInt8)} (q : QY (HX b0 b1 b2 b3 b4 b5) v ks) (hl : ks.length ≤ 1000000) (hk : ∀ r,r = Df n m st w l t ks beat pw pl pt→K r) :
    s98G J0 UP Jp pFin (.agg (J4 n m st w l t v beat pw pl pt)) (HX b0 b1 b2 b3 b4 b5) fun r _=>K r:=by
  have q':=q
  rcases q with ⟨rfl,rfl⟩ | ⟨id,c,ex,mm,tt,rfl,q2,q3⟩
  · (repeat' ((conv=>whnf); (first | exact hk _ (by simp_all [Df,okR,finB_nil,z1,z2,z3,Zu,Zv,QA,QT]) | refine ⟨_,RowAt.low q' (n:=6) (by (((try (simp only [Qh,QL,HX,Nat.succ_eq_add_one,Nat.reduceAdd])); refine ⟨rfl,Nat.le_of_ble_eq_true rfl,fun id hid=>?_⟩; match id,hid with | 0,_=>rfl | 1,_=>rfl | 2,_=>rfl | 3,_=>rfl | 4,_=>rfl | 5,_=>rfl | n + 6,hn=>exact absurd hn (by omega)))) (Nat.le_refl 6),hl,?_⟩ | refine ⟨_,_,rfl,?_⟩ | refine ⟨_,_,_,rfl,?_⟩ | (rw [Dr]; generalize hnb : J9 _ _ _ = nb; cases nb) | (rw [Xq]; generalize hnb : J9 _ _ _ = nb; cases nb) | refine QC (fun _=>?_) (fun _=>?_))))
  · clear q2 q3
    (repeat' ((conv=>whnf); (first | exact hk _ (by simp_all [Df,okR,Zu,Zv,QA,QT]) | refine ⟨_,RowAt.low q' (n:=6) (by (((try (simp only [Qh,QL,HX,Nat.succ_eq_add_one,Nat.reduceAdd])); refine ⟨rfl,Nat.le_of_ble_eq_true rfl,fun id hid=>?_⟩; match id,hid with | 0,_=>rfl | 1,_=>rfl | 2,_=>rfl | 3,_=>rfl | 4,_=>rfl | 5,_=>rfl | n + 6,hn=>exact absurd hn (by omega)))) (Nat.le_refl 6),hl,?_⟩ | refine ⟨_,_,rfl,?_⟩ | refine ⟨_,_,_,rfl,?_⟩ | (rw [Dr]; generalize hnb : J9 _ _ _ = nb; cases nb) | (rw [Xq]; generalize hnb : J9 _ _ _ = nb; cases nb) | refine QC (fun _=>?_) (fun _=>?_))))
theorem Y4 {α : Type} {f : α→List AV} {es : Nat} {h : H} {v : AV} {l : List α} (q : RowAt f es h v l) : ZQ v = true:=by
  rcases q with ⟨rfl,rfl⟩ | ⟨id,c,ex,mm,tt,rfl,q2,q3⟩ <;> rfl
theorem XK {n m st w l t beat pw pl pt : Int} {v : AV} (h : ZQ v = true) : ZN (J4 n m st w l t v beat pw pl pt) = true:=by
  have e : ZN (J4 n m st w l t v beat pw pl pt) = Bool.rec (motive:=fun _=>Bool) false true (ZQ v):=rfl
  rw [e,h]
def KT : AV→H→(Bool→H→Prop)→Prop:=fun v h k=>∃ ks,QY h v ks ∧ ks.length ≤ 1000000 ∧ fB (WT ks) fun b=>k b h
def Qan (X : Ask) : Bool:=eqI (Df X.n X.m (Int.ofNat 2) X.w X.l X.t X.keys (Int.ofNat 0) (Int.ofNat 0) (Int.ofNat 0) (Int.ofNat 0)) (Int.ofNat 0) && WT X.keys
def Qds (X : Ask) : Bool:=(eqI X.rst (Int.ofNat 3) || eqI X.rst (Int.ofNat 4)) && (eqI (Df X.rn X.rm X.rst X.rw X.rl X.rt X.rkeys X.beat X.pw X.pl X.pt) (Int.ofNat 0) && WT X.keys)
theorem Yf {n : Nat} (h : n ≤ 70) : n ≤ 1000000:=by omega
variable {KB : Bool→Prop}
theorem t45 {X : Ask} (c : AskIn (HX b0 b1 b2 b3 b4 b5) X) (hk : ∀ r,r = Qan X→KB r) : s45G J0 Gn KT (.agg (Qx X)) (HX b0 b1 b2 b3 b4 b5) fun r _=>KB r:=by
  (repeat' ((conv=>whnf); (first | exact hk _ (by simp_all [Qan,Zu,Zv,QA,QT]) | refine ⟨_,_,_,_,_,_,_,_,_,_,_,_,rfl,RowAt.low (AskIn.keys c) (n:=6) (by (((try (simp only [Qh,QL,HX,Nat.succ_eq_add_one,Nat.reduceAdd])); refine ⟨rfl,Nat.le_of_ble_eq_true rfl,fun id hid=>?_⟩; match id,hid with | 0,_=>rfl | 1,_=>rfl | 2,_=>rfl | 3,_=>rfl | 4,_=>rfl | 5,_=>rfl | n + 6,hn=>exact absurd hn (by omega)))) (Nat.le_refl 6),Yf (AskIn.l0 c),?_⟩ | refine ⟨_,_,_,_,_,_,_,_,_,_,_,_,rfl,RowAt.low (AskIn.rkeys c) (n:=6) (by (((try (simp only [Qh,QL,HX,Nat.succ_eq_add_one,Nat.reduceAdd])); refine ⟨rfl,Nat.le_of_ble_eq_true rfl,fun id hid=>?_⟩; match id,hid with | 0,_=>rfl | 1,_=>rfl | 2,_=>rfl | 3,_=>rfl | 4,_=>rfl | 5,_=>rfl | n + 6,hn=>exact absurd hn (by omega)))) (Nat.le_refl 6),Yf (AskIn.l2 c),?_⟩ | refine ⟨_,RowAt.low (AskIn.keys c) (n:=6) (by (((try (simp only [Qh,QL,HX,Nat.succ_eq_add_one,Nat.reduceAdd])); refine ⟨rfl,Nat.le_of_ble_eq_true rfl,fun id hid=>?_⟩; match id,hid with | 0,_=>rfl | 1,_=>rfl | 2,_=>rfl | 3,_=>rfl | 4,_=>rfl | 5,_=>rfl | n + 6,hn=>exact absurd hn (by omega)))) (Nat.le_refl 6),Yf (AskIn.l0 c),?_⟩ | refine Wz (Y4 (AskIn.keys c)) ?_ | refine Wz (XK (Y4 (AskIn.keys c))) ?_ | refine QC (fun _=>?_) (fun _=>?_))))
theorem t62 {X : Ask} (c : AskIn (HX b0 b1 b2 b3 b4 b5) X) (hk : ∀ r,r = Qan X→KB r) : s62G J0 KT Gn (.agg (Qx X)) (HX b0 b1 b2 b3 b4 b5) fun r _=>KB r:=by
  (repeat' ((conv=>whnf); (first | exact hk _ (by simp_all [Qan,Zu,Zv,QA,QT]) | refine ⟨_,_,_,_,_,_,_,_,_,_,_,_,rfl,RowAt.low (AskIn.keys c) (n:=6) (by (((try (simp only [Qh,QL,HX,Nat.succ_eq_add_one,Nat.reduceAdd])); refine ⟨rfl,Nat.le_of_ble_eq_true rfl,fun id hid=>?_⟩; match id,hid with | 0,_=>rfl | 1,_=>rfl | 2,_=>rfl | 3,_=>rfl | 4,_=>rfl | 5,_=>rfl | n + 6,hn=>exact absurd hn (by omega)))) (Nat.le_refl 6),Yf (AskIn.l0 c),?_⟩ | refine ⟨_,_,_,_,_,_,_,_,_,_,_,_,rfl,RowAt.low (AskIn.rkeys c) (n:=6) (by (((try (simp only [Qh,QL,HX,Nat.succ_eq_add_one,Nat.reduceAdd])); refine ⟨rfl,Nat.le_of_ble_eq_true rfl,fun id hid=>?_⟩; match id,hid with | 0,_=>rfl | 1,_=>rfl | 2,_=>rfl | 3,_=>rfl | 4,_=>rfl | 5,_=>rfl | n + 6,hn=>exact absurd hn (by omega)))) (Nat.le_refl 6),Yf (AskIn.l2 c),?_⟩ | refine ⟨_,RowAt.low (AskIn.keys c) (n:=6) (by (((try (simp only [Qh,QL,HX,Nat.succ_eq_add_one,Nat.reduceAdd])); refine ⟨rfl,Nat.le_of_ble_eq_true rfl,fun id hid=>?_⟩; match id,hid with | 0,_=>rfl | 1,_=>rfl | 2,_=>rfl | 3,_=>rfl | 4,_=>rfl | 5,_=>rfl | n + 6,hn=>exact absurd hn (by omega)))) (Nat.le_refl 6),Yf (AskIn.l0 c),?_⟩ | refine Wz (Y4 (AskIn.keys c)) ?_ | refine Wz (XK (Y4 (AskIn.keys c))) ?_ | refine QC (fun _=>?_) (fun _=>?_))))
theorem t63 {X : Ask} (c : AskIn (HX b0 b1 b2 b3 b4 b5) X) (hk : ∀ r,r = Qds X→KB r) : s63G J0 KT Gn (.agg (Qx X)) (HX b0 b1 b2 b3 b4 b5) fun r _=>KB r:=by
  (repeat' ((conv=>whnf); (first | exact hk _ (by simp_all [Qds,Zu,Zv,QA,QT]) | refine ⟨_,_,_,_,_,_,_,_,_,_,_,_,rfl,RowAt.low (AskIn.keys c) (n:=6) (by (((try (simp only [Qh,QL,HX,Nat.succ_eq_add_one,Nat.reduceAdd])); refine ⟨rfl,Nat.le_of_ble_eq_true rfl,fun id hid=>?_⟩; match id,hid with | 0,_=>rfl | 1,_=>rfl | 2,_=>rfl | 3,_=>rfl | 4,_=>rfl | 5,_=>rfl | n + 6,hn=>exact absurd hn (by omega)))) (Nat.le_refl 6),Yf (AskIn.l0 c),?_⟩ | refine ⟨_,_,_,_,_,_,_,_,_,_,_,_,rfl,RowAt.low (AskIn.rkeys c) (n:=6) (by (((try (simp only [Qh,QL,HX,Nat.succ_eq_add_one,Nat.reduceAdd])); refine ⟨rfl,Nat.le_of_ble_eq_true rfl,fun id hid=>?_⟩; match id,hid with | 0,_=>rfl | 1,_=>rfl | 2,_=>rfl | 3,_=>rfl | 4,_=>rfl | 5,_=>rfl | n + 6,hn=>exact absurd hn (by omega)))) (Nat.le_refl 6),Yf (AskIn.l2 c),?_⟩ | refine ⟨_,RowAt.low (AskIn.keys c) (n:=6) (by (((try (simp only [Qh,QL,HX,Nat.succ_eq_add_one,Nat.reduceAdd])); refine ⟨rfl,Nat.le_of_ble_eq_true rfl,fun id hid=>?_⟩; match id,hid with | 0,_=>rfl | 1,_=>rfl | 2,_=>rfl | 3,_=>rfl | 4,_=>rfl | 5,_=>rfl | n + 6,hn=>exact absurd hn (by omega)))) (Nat.le_refl 6),Yf (AskIn.l0 c),?_⟩ | refine Wz (Y4 (AskIn.keys c)) ?_ | refine Wz (XK (Y4 (AskIn.keys c))) ?_ | refine QC (fun _=>?_) (fun _=>?_))))
end
end Go.Proofs.YtodlaigjjknpkaaGreatDoor
namespace Go.Proofs.YtodlaigjjknpkaaGreatDoor
open Go Go.Am
set_option linter.all false
set_option maxRecDepth 100000
def Xw (l : List (Int × Int × Int)) : Bool:=l.all stB
def Gm : AV→H→(Bool→H→Prop)→Prop:=fun v h k=>∃ l,RowAt KR 3 h v l ∧ l.length ≤ 1000000 ∧ fB (Xw l) fun b=>k b h
def DO : AV→AV→H→(Bool→H→Prop)→Prop:=fun a b h k=>∃ C fr to,a = .agg (QG C) ∧ b = ZF fr to ∧ CfgIn h C ∧ Yu C = true ∧ fB (Nw C.ks fr to) fun r=>k r h
def pndB (l : List (Int × Int)) : Bool:=l.all txB && !(ltI (Int.ofNat 64) (Int.ofNat l.length))
def Qdh (C : Cfg) (X : Ask) : Bool:=pndB X.known && ((nob X.n X.m || okT X.n X.m) && (Nw C.ks (Str.of X.fr) (Str.of X.to) && (Xw [(X.w,X.l,X.t),(X.lw,X.ll,X.lt)] &&
  !(lsS X.lw X.ll X.lt X.w X.l X.t))))
theorem lq0 {a b c c0 c1 c2 c3 c4 c5 : AV} : Qy 0 [a,b,c] [c0,c1,c2,c3,c4,c5] = some [a,b,c,c3,c4,c5]:=rfl
theorem lq3 {a b c c0 c1 c2 c3 c4 c5 : AV} : Qy 3 [a,b,c] [c0,c1,c2,c3,c4,c5] = some [c0,c1,c2,a,b,c]:=rfl
section
variable {KB : Bool→H→Prop} {h : H}
theorem t43 {C : Cfg} {X : Ask} (c : CfgIn h C) (x : AskIn h X) (hw : h.base ≤ h.next) (hok : Yu C = true) (hk : ∀ h', KB (Qdh C X) h') : s43G J0 Gm QaA QeN DO QeQ (.agg (QG C)) (.agg (Qx X)) h KB := by
  unfold s43G
  rw [QJ,Qw,QJ,Qw]
  have hl:=x.l3
  have lo0 : Low h.next h (Qh (Qh h (.cells false 27 (QG C))) (.cells false 40 (Qx X))):=(Low.push _ _ _ (Nat.le_refl _)).trans (Low.push _ _ _ (Nat.le_succ _))
  have c1 : CfgIn (Qh (Qh h (.cells false 27 (QG C))) (.cells false 40 (Qx X))) C:=c.low lo0 (Nat.le_refl _)
  have x1 : AskIn (Qh (Qh h (.cells false 27 (QG C))) (.cells false 40 (Qx X))) X:=x.low lo0 (Nat.le_refl _)
  have gC : (Qh (Qh h (.cells false 27 (QG C))) (.cells false 40 (Qx X))).get h.next = .cells false 27 (QG C):=(YE _ (Nat.lt_succ_self _)).trans (QO _ _)
  have gA : (Qh (Qh h (.cells false 27 (QG C))) (.cells false 40 (Qx X))).get (h.next + 1) = .cells false 40 (Qx X):=QO (Qh h (.cells false 27 (QG C))) _
  have n0 : (Qh (Qh h (.cells false 27 (QG C))) (.cells false 40 (Qx X))).next = h.next + 2:=rfl
  have b0:=lo0.base
  rw [show (Qh h (.cells false 27 (QG C))).next = h.next + 1 from rfl]
  generalize Qh (Qh h (.cells false 27 (QG C))) (.cells false 40 (Qx X)) = h1 at lo0 c1 x1 gC gA n0 b0 ⊢
  rw [QS (v:=X.vn) gA rfl,x1.known.len]
  refine Uo (ks:=X.known) txB (fun i z h''=>z = (AV.ptr h.next 0,AV.ptr (h.next + 1) 0,X.vn,AV.int .i64 (Int.ofNat X.known.length),AV.int .i64 (Int.ofNat i),()) ∧ Low h1.next h1 h'') (by omega) ?_ ?_ ⟨rfl,.refl _ _⟩
  · rintro i hi z h2 self ⟨rfl, lo⟩ s1 s2
    have n2:=lo.next
    have b2:=lo.base
    obtain ⟨p,p1,p2⟩:=RowAt.rd (f:=No) (fun _=>rfl) x1.known hi
    simp only [QQ,Qk,Qn,Q0 hi,WR,p1,p2 h2 _ (fun id hid=>lo.get id hid),Qw]
    rw [No,Ux rfl (by omega),VJ]
    refine ⟨_,_,rfl,?_⟩
    cases h3 : okT X.known[i].1 X.known[i].2
    · (simp only [↓zA, Qk, Qn, zB])
      have hk:=hk (Qh h2 (.cells false 31 [.int .i32 X.known[i].1,.int .i32 X.known[i].2]))
      unfold Qdh pndB at hk
      rw [UY (s2 h3)] at hk; exact hk
    · (simp only [↓zA, Qk, Qn, zB])
      rw [Zn i (by omega)]
      exact s1 h3 _ _ ⟨rfl,lo.trans (.push _ _ _ n2)⟩
  · rintro z h2 self ⟨rfl, lo⟩ hp
    have hp:=JK hp
    have n2:=lo.next
    have b2:=lo.base
    have gC2 : h2.get h.next = .cells false 27 (QG C):=(lo.get _ (by omega)).trans gC
    have gA2 : h2.get (h.next + 1) = .cells false 40 (Qx X):=(lo.get _ (by omega)).trans gA
    have hk0 : ∀ h',KB (((nob X.n X.m || okT X.n X.m) && (Nw C.ks (Str.of X.fr) (Str.of X.to) && (Xw [(X.w,X.l,X.t),(X.lw,X.ll,X.lt)] && !(ltI (cmS X.lw X.ll X.lt X.w X.l X.t) (Int.ofNat 0))))) && !(ltI (Int.ofNat 64) (Int.ofNat X.known.length))) h':=fun h'=>by
      have:=hk h'; unfold Qdh pndB at this; rw [hp,← Dd,Bool.true_and,Bool.and_comm] at this; exact this
    simp only [QQ,Qk,Qn,Q5 (Nat.le_refl X.known.length),Wi,QW,QN (n:=2) (o:=Nat.add 0 6) (l:=[.int .i32 X.n,.int .i32 X.m]) gA2 rfl]
    refine ⟨_,_,rfl,?_⟩
    cases e1 : (nob X.n X.m || okT X.n X.m)
    · rw [e1] at hk0
      (simp only [↓zA,Qk,Qn,zB])
      exact hk0 _
    · rw [e1] at hk0
      (simp only [↓zA,Qk,Qn,zB,QN (n:=10) (o:=0) (l:=QG C) gC2 rfl,QW,QN (n:=2) (o:=Nat.add 0 15) (l:=[.str (Str.of X.fr),.str (Str.of X.to)]) gA2 rfl])
      refine ⟨C,Str.of X.fr,Str.of X.to,rfl,rfl,c1.low lo (Nat.le_refl _),hok,?_⟩
      cases e2 : Nw C.ks (Str.of X.fr) (Str.of X.to)
      · rw [e2] at hk0
        (simp only [↓zA,Qk,Qn,zB])
        exact hk0 _
      · rw [e2] at hk0
        (simp only [↓zA,Qk,Qn,zB,QW,QN (n:=3) (o:=Nat.add 0 17) (l:=[.int .i64 X.w,.int .i32 X.l,.int .i32 X.t]) gA2 rfl,QN (n:=3) (o:=Nat.add 0 20) (l:=[.int .i64 X.lw,.int .i32 X.ll,.int .i32 X.lt]) gA2 rfl,QJ,ck3,lq0,lq3,Z0,Qw])
        have lo3 : Low h1.next h1 (Qh h2 (.cells false 29 [.int .i64 X.w,.int .i32 X.l,.int .i32 X.t,.int .i64 X.lw,.int .i32 X.ll,.int .i32 X.lt])):=lo.trans (.push _ _ _ n2)
        have gS:=QO h2 (.cells false 29 [.int .i64 X.w,.int .i32 X.l,.int .i32 X.t,.int .i64 X.lw,.int .i32 X.ll,.int .i32 X.lt])
        have n3 : h2.next < (Qh h2 (.cells false 29 [.int .i64 X.w,.int .i32 X.l,.int .i32 X.t,.int .i64 X.lw,.int .i32 X.ll,.int .i32 X.lt])).next:=Nat.lt_succ_self _
        generalize Qh h2 (.cells false 29 [.int .i64 X.w,.int .i32 X.l,.int .i32 X.t,.int .i64 X.lw,.int .i32 X.ll,.int .i32 X.lt]) = h3 at lo3 gS n3 ⊢
        have gA3 : h3.get (h.next + 1) = .cells false 40 (Qx X):=(lo3.get _ (by omega)).trans gA
        refine ⟨[(X.w,X.l,X.t),(X.lw,X.ll,X.lt)],.inr ⟨_,_,_,_,_,rfl,gS,n3⟩,(by show 2 ≤ 1000000; decide),?_⟩
        show fB (Xw [(X.w,X.l,X.t),(X.lw,X.ll,X.lt)]) _
        cases e3 : Xw [(X.w,X.l,X.t),(X.lw,X.ll,X.lt)]
        · rw [e3] at hk0
          (simp only [↓zA,Qk,Qn,zB])
          exact hk0 _
        · rw [e3] at hk0
          (simp only [↓zA,Qk,Qn,zB,QW,QN (n:=3) (o:=Nat.add 0 17) (l:=[.int .i64 X.w,.int .i32 X.l,.int .i32 X.t]) gA3 rfl,QN (n:=3) (o:=Nat.add 0 20) (l:=[.int .i64 X.lw,.int .i32 X.ll,.int .i32 X.lt]) gA3 rfl])
          refine ⟨_,_,_,_,_,_,rfl,rfl,?_⟩
          cases e4 : ltI (cmS X.lw X.ll X.lt X.w X.l X.t) (Int.ofNat 0)
          · rw [e4] at hk0
            (simp only [↓zA,Qk,Qn,zB,e4,QW,QS (o:=Nat.add 0 41) (v:=X.vn) gA3 rfl,x1.known.len])
            exact hk0 _
          · rw [e4] at hk0
            (simp only [↓zA,Qk,Qn,zB,e4])
            exact hk0 _
end
end Go.Proofs.YtodlaigjjknpkaaGreatDoor
