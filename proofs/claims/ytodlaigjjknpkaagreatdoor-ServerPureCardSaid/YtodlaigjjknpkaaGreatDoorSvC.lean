import Derived.Test.YtodlaigjjknpkaaGreatDoorAmS16
import Derived.Test.YtodlaigjjknpkaaGreatDoorAmL7
import Derived.Test.YtodlaigjjknpkaaGreatDoorSvA2
import Derived.KernelRfl
noncomputable section
namespace Go.Proofs.YtodlaigjjknpkaaGreatDoor
open Go Go.Am
set_option linter.all false
set_option maxRecDepth 100000
def bad (b : Bool) : Int:=cond b (Int.ofNat 0) (Int.ofNat 2)
theorem QA (b : Bool) : eqI (bad b) (Int.ofNat 0) = b:=by cases b <;> rfl
theorem QT (b : Bool) : eqI (bad b) 0 = b:=QA b
theorem Zu : bad true = 0:=rfl
theorem Zv : bad false = 2:=rfl
def okS (w l t : Int) : Bool:=!(ltI w (Int.ofNat 0)) && (!(ltI (Int.ofNat 1099511627776) w) && (!(ltI l (Int.ofNat 0)) && (!(ltI (Int.ofNat 1048576) l) && (!(ltI t (Int.ofNat 0)) && !(ltI (Int.ofNat 1048576) t)))))
def usr (s : Str) : Bool:=!(ltI (Int.ofNat s.len) (Int.ofNat 1)) && !(ltI (Int.ofNat 128) (Int.ofNat s.len))
def wor (s : Str) (d : Bool) : Bool:=!(ltI (Int.ofNat 2048) (Int.ofNat s.len)) && (!d || Str.beq s ⟨0,0⟩)
def okT (n m : Int) : Bool:=!(ltI n (Int.ofNat 0)) && (ltI n (Int.ofNat 7) && (!(ltI m (Int.ofNat 1)) && !(ltI (Int.ofNat 100000) m)))
def Qam (n m : Int) : Int:=cond (okT n m) (Qu .i32 (Int.add (Qu .i32 (Int.mul m (Int.ofNat 8))) n)) (Int.ofNat 0)
def okI (key : Str) (n m bw bl bt : Int) (anchor : Str) (w l t : Int) (val : Str) (del : Bool) : Bool :=
  okT n m && (usr key && (usr anchor && (wor val del && (okS bw bl bt && (okS w l t && eqI t (Qam n m))))))
def nob (n m : Int) : Bool:=eqI n (Int.ofNat 0) && eqI m (Int.ofNat 0)
def emp (fr to : Str) : Bool:=!(Str.beq to ⟨0,0⟩) && !(Str.lt fr to)
def NG (fr to key : Str) : Bool:=!(Str.lt key fr) && (Str.beq to ⟨0,0⟩ || Str.lt key to)
def mFr (af bf : Str) : Str:=Bool.rec (motive:=fun _=>Str) af bf (Str.lt af bf)
def mTo (at' bt : Str) : Str:=cond (Str.beq at' ⟨0,0⟩ || (!(Str.beq bt ⟨0,0⟩) && Str.lt bt at')) bt at'
def lsS (w l t w' l' t' : Int) : Bool:=cond (eqI w w') (cond (eqI l l') (ltI t t') (ltI l l')) (ltI w w')
def VA (w l t : Int) : AV:=.agg [.int .i64 w,.int .i32 l,.int .i32 t]
def Jj (n m : Int) : AV:=.agg [.int .i32 n,.int .i32 m]
def ZF (fr to : Str) : AV:=.agg [.str fr,.str to]
def Qdt (key : Str) (n m bw bl bt : Int) (anchor : Str) (w l t : Int) (val : Str) (del : Bool) : AV :=
  .agg [.str key,.int .i32 n,.int .i32 m,.int .i64 bw,.int .i32 bl,.int .i32 bt,.str anchor,.int .i64 w,.int .i32 l,.int .i32 t,.str val,.bool del]
def Jo : Str→H→(Bool→H→Prop)→Prop:=fun s h k=>fB (usr s) fun b=>k b h
def Qdl : Str→Bool→H→(Bool→H→Prop)→Prop:=fun s d h k=>fB (wor s d) fun b=>k b h
def UP : AV→H→(Int→H→Prop)→Prop:=fun a h k=>∃ w l t,a = VA w l t ∧ k (bad (okS w l t)) h
def Jp : AV→H→(Int→Int→H→Prop)→Prop:=fun a h k=>∃ n m,a = Jj n m ∧ k (Qam n m) (bad (okT n m)) h
def QaA : AV→H→(Bool→H→Prop)→Prop:=fun a h k=>∃ n m,a = Jj n m ∧ fB (okT n m) fun b=>k b h
def QeN : AV→H→(Bool→H→Prop)→Prop:=fun a h k=>∃ n m,a = Jj n m ∧ fB (nob n m || okT n m) fun b=>k b h
def QeM : AV→Bool→H→(Bool→H→Prop)→Prop:=fun a d h k=>∃ n m,a = Jj n m ∧ fB (cond d (nob n m || okT n m) (okT n m)) fun b=>k b h
def QaC : AV→H→(Int→H→Prop)→Prop:=fun a h k=>∃ key n m bw bl bt anchor w l t val del,a = Qdt key n m bw bl bt anchor w l t val del ∧ k (bad (okI key n m bw bl bt anchor w l t val del)) h
def Nu : AV→H→(Bool→H→Prop)→Prop:=fun a h k=>∃ fr to,a = ZF fr to ∧ fB (emp fr to) fun b=>k b h
def pLes : AV→AV→H→(Bool→H→Prop)→Prop:=fun a b h k=>∃ w l t w' l' t',a = VA w l t ∧ b = VA w' l' t' ∧ fB (lsS w l t w' l' t') fun b=>k b h
def pHas : AV→Str→H→(Bool→H→Prop)→Prop:=fun a key h k=>∃ fr to,a = ZF fr to ∧ fB (NG fr to key) fun b=>k b h
theorem Wz {c : Bool} {A B : Prop} (h : c = true) (h1 : A) : (Bool.rec (motive:=fun _=>Prop) B A c):=by rw [h]; exact h1
theorem aBin31' (n m : Int) : Option.map AV.bool (Bool.rec (motive:=fun _=>Option Bool) (some false) (Bool.rec (motive:=fun _=>Option Bool) (some false) (some true) (eqI m (Int.ofNat 0))) (eqI n (Int.ofNat 0))) = Wt ty .eql 31 false (.agg [.int .i32 n,.int .i32 m]) (.agg [.int .i32 (Int.ofNat 0),.int .i32 (Int.ofNat 0)])  := by
  kernel_rfl
theorem ZD (n m : Int) : Wt ty .eql 31 false (.agg [.int .i32 n,.int .i32 m]) (.agg [.int .i32 0,.int .i32 0]) = some (.bool (nob n m)):=by
  refine (aBin31' n m).symm.trans ?_
  unfold nob
  cases eqI n (Int.ofNat 0) <;> cases eqI m (Int.ofNat 0) <;> rfl
section
variable {K : Int→Prop} {KB : Bool→Prop} {KI : Int→Int→Prop}
theorem t40 {w l t : Int} (hk : ∀ r,r = bad (okS w l t)→K r) : s40G J0 (VA w l t) H0 fun r _=>K r:=by (repeat' ((conv=>whnf); first | exact hk _ (by simp_all [okS,Zu,Zv,QA,QT]) | refine ⟨_,_,_,rfl,?_⟩ | refine ⟨_,_,rfl,?_⟩ | (rw [ZD]; generalize hnb : nob _ _ = nb; cases nb) | refine QC (fun _=>?_) (fun _=>?_)))
theorem t28 {w l t : Int} (hk : ∀ r,r = bad (okS w l t)→K r) : s28G J0 (VA w l t) H0 fun r _=>K r:=by (repeat' ((conv=>whnf); first | exact hk _ (by simp_all [okS,Zu,Zv,QA,QT]) | refine ⟨_,_,_,rfl,?_⟩ | refine ⟨_,_,rfl,?_⟩ | (rw [ZD]; generalize hnb : nob _ _ = nb; cases nb) | refine QC (fun _=>?_) (fun _=>?_)))
theorem t42 {s : Str} (hk : ∀ r,r = usr s→KB r) : s42G J0 s H0 fun r _=>KB r:=by (repeat' ((conv=>whnf); first | exact hk _ (by simp_all [usr,Zu,Zv,QA,QT]) | refine ⟨_,_,_,rfl,?_⟩ | refine ⟨_,_,rfl,?_⟩ | (rw [ZD]; generalize hnb : nob _ _ = nb; cases nb) | refine QC (fun _=>?_) (fun _=>?_)))
theorem t132 {s : Str} (hk : ∀ r,r = usr s→KB r) : Qev J0 s H0 fun r _=>KB r:=by (repeat' ((conv=>whnf); first | exact hk _ (by simp_all [usr,Zu,Zv,QA,QT]) | refine ⟨_,_,_,rfl,?_⟩ | refine ⟨_,_,rfl,?_⟩ | (rw [ZD]; generalize hnb : nob _ _ = nb; cases nb) | refine QC (fun _=>?_) (fun _=>?_)))
theorem t141 {s : Str} (hk : ∀ r,r = usr s→KB r) : Qeq J0 s H0 fun r _=>KB r:=by (repeat' ((conv=>whnf); first | exact hk _ (by simp_all [usr,Zu,Zv,QA,QT]) | refine ⟨_,_,_,rfl,?_⟩ | refine ⟨_,_,rfl,?_⟩ | (rw [ZD]; generalize hnb : nob _ _ = nb; cases nb) | refine QC (fun _=>?_) (fun _=>?_)))
theorem t133 {s : Str} {d : Bool} (hk : ∀ r,r = wor s d→KB r) : Qeu J0 s d H0 fun r _=>KB r:=by cases d <;> (repeat' ((conv=>whnf); first | exact hk _ (by simp_all [wor,Zu,Zv,QA,QT]) | refine ⟨_,_,_,rfl,?_⟩ | refine ⟨_,_,rfl,?_⟩ | (rw [ZD]; generalize hnb : nob _ _ = nb; cases nb) | refine QC (fun _=>?_) (fun _=>?_)))
theorem t144 {s : Str} {d : Bool} (hk : ∀ r,r = wor s d→KB r) : Qeo J0 s d H0 fun r _=>KB r:=by cases d <;> (repeat' ((conv=>whnf); first | exact hk _ (by simp_all [wor,Zu,Zv,QA,QT]) | refine ⟨_,_,_,rfl,?_⟩ | refine ⟨_,_,rfl,?_⟩ | (rw [ZD]; generalize hnb : nob _ _ = nb; cases nb) | refine QC (fun _=>?_) (fun _=>?_)))
theorem t81 {n m : Int} (hk : ∀ r e,r = Qam n m→e = bad (okT n m)→KI r e) : s81G J0 (Jj n m) H0 fun r e _=>KI r e:=by
  unfold s81G
  simp only [Qn]
  repeat' ((conv=>whnf); first | exact hk _ _ (by simp_all [Qam,okT]) (by simp_all [okT,Zu,Zv]) | refine QC (fun _=>?_) (fun _=>?_))
theorem t93 {n m : Int} (hk : ∀ r e,r = Qam n m→e = bad (okT n m)→KI r e) : s93G J0 (Jj n m) H0 fun r e _=>KI r e:=by
  unfold s93G
  simp only [Qn]
  repeat' ((conv=>whnf); first | exact hk _ _ (by simp_all [Qam,okT]) (by simp_all [okT,Zu,Zv]) | refine QC (fun _=>?_) (fun _=>?_))
theorem t41 {n m : Int} (hk : ∀ r,r = okT n m→KB r) : s41G J0 Jp (Jj n m) H0 fun r _=>KB r:=by (repeat' ((conv=>whnf); first | exact hk _ (by simp_all [okT,Zu,Zv,QA,QT]) | refine ⟨_,_,_,rfl,?_⟩ | refine ⟨_,_,rfl,?_⟩ | (rw [ZD]; generalize hnb : nob _ _ = nb; cases nb) | refine QC (fun _=>?_) (fun _=>?_)))
theorem t83 {key : Str} {n m bw bl bt : Int} {anchor : Str} {w l t : Int} {val : Str} {del : Bool} (hk : ∀ r,r = bad (okI key n m bw bl bt anchor w l t val del)→K r) : s83G J0 UP Jp Jo Qdl (Qdt key n m bw bl bt anchor w l t val del) H0 fun r _=>K r:=by (repeat' ((conv=>whnf); first | exact hk _ (by simp_all [okI,Zu,Zv,QA,QT]) | refine ⟨_,_,_,rfl,?_⟩ | refine ⟨_,_,rfl,?_⟩ | (rw [ZD]; generalize hnb : nob _ _ = nb; cases nb) | refine QC (fun _=>?_) (fun _=>?_)))
theorem t96 {key : Str} {n m bw bl bt : Int} {anchor : Str} {w l t : Int} {val : Str} {del : Bool} (hk : ∀ r,r = bad (okI key n m bw bl bt anchor w l t val del)→K r) : s96G J0 UP Jp Jo Qdl (Qdt key n m bw bl bt anchor w l t val del) H0 fun r _=>K r:=by (repeat' ((conv=>whnf); first | exact hk _ (by simp_all [okI,Zu,Zv,QA,QT]) | refine ⟨_,_,_,rfl,?_⟩ | refine ⟨_,_,rfl,?_⟩ | (rw [ZD]; generalize hnb : nob _ _ = nb; cases nb) | refine QC (fun _=>?_) (fun _=>?_)))
theorem t134 {fr to : Str} (hk : ∀ r,r = emp fr to→KB r) : Qes J0 (ZF fr to) H0 fun r _=>KB r:=by (repeat' ((conv=>whnf); first | exact hk _ (by simp_all [emp,Zu,Zv,QA,QT]) | refine ⟨_,_,_,rfl,?_⟩ | refine ⟨_,_,rfl,?_⟩ | (rw [ZD]; generalize hnb : nob _ _ = nb; cases nb) | refine QC (fun _=>?_) (fun _=>?_)))
theorem t213 {fr to : Str} (hk : ∀ r,r = emp fr to→KB r) : Qeh J0 (ZF fr to) H0 fun r _=>KB r:=by (repeat' ((conv=>whnf); first | exact hk _ (by simp_all [emp,Zu,Zv,QA,QT]) | refine ⟨_,_,_,rfl,?_⟩ | refine ⟨_,_,rfl,?_⟩ | (rw [ZD]; generalize hnb : nob _ _ = nb; cases nb) | refine QC (fun _=>?_) (fun _=>?_)))
theorem t91 {fr to key : Str} (hk : ∀ r,r = NG fr to key→KB r) : s91G J0 (ZF fr to) key H0 fun r _=>KB r:=by (repeat' ((conv=>whnf); first | exact hk _ (by simp_all [NG,Zu,Zv,QA,QT]) | refine ⟨_,_,_,rfl,?_⟩ | refine ⟨_,_,rfl,?_⟩ | (rw [ZD]; generalize hnb : nob _ _ = nb; cases nb) | refine QC (fun _=>?_) (fun _=>?_)))
theorem t59 {w l t w' l' t' : Int} (hk : ∀ r,r = lsS w l t w' l' t'→KB r) : s59G J0 (VA w l t) (VA w' l' t') H0 fun r _=>KB r:=by (repeat' ((conv=>whnf); first | exact hk _ (by simp_all [lsS,Zu,Zv,QA,QT]) | refine ⟨_,_,_,rfl,?_⟩ | refine ⟨_,_,rfl,?_⟩ | (rw [ZD]; generalize hnb : nob _ _ = nb; cases nb) | refine QC (fun _=>?_) (fun _=>?_)))
end
end Go.Proofs.YtodlaigjjknpkaaGreatDoor
namespace Go.Proofs.YtodlaigjjknpkaaGreatDoor
open Go Go.Am
set_option linter.all false
set_option maxRecDepth 100000
def cm2 (a b : Int) : Int:=cond (ltI a b) (Int.negSucc 0) (cond (ltI b a) (Int.ofNat 1) (Int.ofNat 0))
def cmS (w l t w' l' t' : Int) : Int:=cond (!(eqI (cm2 w w') (Int.ofNat 0))) (cm2 w w') (cond (!(eqI (cm2 l l') (Int.ofNat 0))) (cm2 l l') (cond (!(eqI (cm2 t t') (Int.ofNat 0))) (cm2 t t') (Int.ofNat 0)))
theorem QaT (a b : Int) : (a < b ∧ cm2 a b = -1) ∨ (a = b ∧ cm2 a b = 0) ∨ (b < a ∧ cm2 a b = 1):=by
  unfold cm2
  rcases Int.lt_trichotomy a b with h | h | h
  · rw [WF.2 h]; exact .inl ⟨h,rfl⟩
  · rw [Zm.2 (by omega),Zm.2 (by omega)]; exact .inr (.inl ⟨h,rfl⟩)
  · rw [Zm.2 (by omega),WF.2 h]; exact .inr (.inr ⟨h,rfl⟩)
theorem Dd (w l t w' l' t' : Int) : ltI (cmS w l t w' l' t') (Int.ofNat 0) = lsS w l t w' l' t':=by
  unfold cmS lsS
  rcases QaT w w' with ⟨h,e⟩ | ⟨h,e⟩ | ⟨h,e⟩
  · rw [e,Z4.2 (by omega : w ≠ w'),WF.2 h]; rfl
  · rw [e, ZC.2 h]
    rcases QaT l l' with ⟨h,e⟩ | ⟨h,e⟩ | ⟨h,e⟩
    · rw [e,Z4.2 (by omega : l ≠ l'),WF.2 h]; rfl
    · rw [e, ZC.2 h]
      rcases QaT t t' with ⟨h,e⟩ | ⟨h,e⟩ | ⟨h,e⟩
      · rw [e,WF.2 h]; rfl
      · rw [e,Zm.2 (by omega : t' ≤ t)]; rfl
      · rw [e,Zm.2 (by omega : t' ≤ t)]; rfl
    · rw [e,Z4.2 (by omega : l ≠ l'),Zm.2 (by omega : l' ≤ l)]; rfl
  · rw [e,Z4.2 (by omega : w ≠ w'),Zm.2 (by omega : w' ≤ w)]; rfl
def orL : List Int→Int
  | []=>Int.ofNat 0
  | x :: xs=>cond (!(eqI x (Int.ofNat 0))) x (orL xs)
def pOr : AV→H→(Int→H→Prop)→Prop:=fun v h k=>∃ l : List Int,Vb h v l ∧ l.length ≤ 1000 ∧ k (orL l) h
def Qdp : Int→H→(Bool→H→Prop)→Prop:=fun _ h k=>k false h
def Qdr : Int→Int→H→(Int→H→Prop)→Prop:=fun a b h k=>k (cm2 a b) h
def QeQ : AV→AV→H→(Int→H→Prop)→Prop:=fun a b h k=>∃ w l t w' l' t',a = VA w l t ∧ b = VA w' l' t' ∧ k (cmS w l t w' l' t') h
section
variable {K : Int→Prop} {KB : Bool→Prop} {KI : Int→Int→Prop} {KA : AV→Bool→Prop}
theorem t137 {a : Int} (hk : ∀ r,r = false→KB r) : Qbw J0 a H0 fun r _=>KB r:=by
  unfold Qbw; rw [ZC.2 rfl]; exact hk _ rfl
theorem t138 {a : Int} (hk : ∀ r,r = false→KB r) : Qbu J0 a H0 fun r _=>KB r:=by
  unfold Qbu; rw [ZC.2 rfl]; exact hk _ rfl
theorem t87 {a b : Int} (hk : ∀ r,r = cm2 a b→K r) : s87G J0 Qdp a b H0 fun r _=>K r:=by (repeat' ((conv=>whnf); first | exact hk _ (by simp_all [cm2,Zu,Zv,QA,QT]) | refine ⟨_,_,_,rfl,?_⟩ | refine ⟨_,_,rfl,?_⟩ | (rw [ZD]; generalize hnb : nob _ _ = nb; cases nb) | refine QC (fun _=>?_) (fun _=>?_)))
theorem t88 {a b : Int} (hk : ∀ r,r = cm2 a b→K r) : s88G J0 Qdp a b H0 fun r _=>K r:=by (repeat' ((conv=>whnf); first | exact hk _ (by simp_all [cm2,Zu,Zv,QA,QT]) | refine ⟨_,_,_,rfl,?_⟩ | refine ⟨_,_,rfl,?_⟩ | (rw [ZD]; generalize hnb : nob _ _ = nb; cases nb) | refine QC (fun _=>?_) (fun _=>?_)))
theorem t86 {h : H} {v : AV} {l : List Int} {k : Int→H→Prop} (q : Vb h v l) (hl : l.length ≤ 1000) (hk : k (orL l) h) : s86G J0 v h k:=by
  unfold s86G
  rw [q.len]
  refine Yx l.length (fun i x h'=>x = (.int .i64 (Int.ofNat 0),v,.int .i64 (Int.ofNat l.length),.int .i64 (Int.ofNat i),()) ∧ h' = h ∧ orL (l.drop i) = orL l) (by omega) ?_ ?_ ⟨rfl,rfl,rfl⟩
  · rintro i x h' self hi ⟨rfl, rfl, e⟩ hs
    obtain ⟨p,p1,p2⟩:=q.rdI hi
    simp only [QQ,Qk,Qn,Q0 hi,WR,p1,p2 h' _ (fun _ _=>rfl)]
    rw [List.drop_eq_getElem_cons hi,orL] at e
    cases hc : eqI l[i] (Int.ofNat 0)
    · rw [hc] at e
      have e : l[i] = orL l:=e
      rw [e]; exact hk
    · rw [hc] at e
      simp only [Bool.not_true,Wi,QQ]
      rw [Zn i (by omega)]
      exact hs _ _ ⟨rfl,rfl,e⟩
  · rintro x h' self ⟨rfl, rfl, e⟩
    simp only [QQ,Qk,Qn,Q5 (Nat.le_refl l.length),Wi]
    rw [List.drop_length] at e
    have e : Int.ofNat 0 = orL l:=e
    show k (Int.ofNat 0) h'
    rw [e]; exact hk
theorem t50 {w l t w' l' t' : Int} (hk : ∀ r,r = cmS w l t w' l' t'→K r) : s50G J0 pOr Qdr Qdr (VA w l t) (VA w' l' t') H0 fun r _=>K r:=by
  unfold s50G
  repeat' ((conv=>whnf); refine Wz (VD rfl (by simp [AV.same])) ?_)
  conv=>whnf
  refine ⟨[_,_,_],.inr ⟨2,3,true,false,3,rfl,rfl,(by show 2 < 3; decide)⟩,(by show 3 ≤ 1000; decide),?_⟩
  exact hk _ rfl
theorem t48 {n m : Int} (hk : ∀ r,r = (nob n m || okT n m)→KB r) : s48G J0 QaA (Jj n m) H0 fun r _=>KB r:=by
  (repeat' ((conv=>whnf); first | exact hk _ (by simp_all [or_true,Zu,Zv,QA,QT]) | refine ⟨_,_,_,rfl,?_⟩ | refine ⟨_,_,rfl,?_⟩ | (rw [ZD]; generalize hnb : nob _ _ = nb; cases nb) | refine QC (fun _=>?_) (fun _=>?_)))
theorem t55 {n m : Int} {d : Bool} (hk : ∀ r,r = cond d (nob n m || okT n m) (okT n m)→KB r) : s55G J0 Jp (Jj n m) d H0 fun r _=>KB r:=by
  cases d <;> (repeat' ((conv=>whnf); first | exact hk _ (by simp_all [or_true,Zu,Zv,QA,QT]) | refine ⟨_,_,_,rfl,?_⟩ | refine ⟨_,_,rfl,?_⟩ | (rw [ZD]; generalize hnb : nob _ _ = nb; cases nb) | refine QC (fun _=>?_) (fun _=>?_)))
theorem usr_len {l : List UInt8} (h : usr (Str.of l) = true) : l.length ≤ 128:=by
  unfold usr at h
  rw [Bool.and_eq_true,Bool.not_eq_true',Bool.not_eq_true'] at h
  have:=Zm.1 h.2
  have h2 : ((Str.of l).len : Int) ≤ (128 : Nat):=this
  rw [Nx] at h2; omega
theorem t142 {m : List UInt8} (hm : m.length ≤ 128) {KS : Str→Prop} (hk : ∀ r : List UInt8,r.length ≤ 1000→KS (Str.of r)) : Qbo J0 (Str.of m) H0 fun r _=>KS r:=by
  unfold Qbo
  refine NA (fun n v d h=>∃ i row l,v = (.str (Str.of m),row,.int .i64 (Int.ofNat i),()) ∧ d = [] ∧ i ≤ m.length ∧ n = m.length - i ∧ Row true 5 0 h row l ∧ l.length ≤ 2 * i ∧ h.base = 0) ?_ (n:=m.length) (by unfold fuel; omega) ⟨0,_,[],rfl,rfl,Nat.zero_le _,rfl,Row.nil _ _ _ _,(by simp),rfl⟩
  rintro n self v d h ⟨i,row,l,rfl,rfl,hi,rfl,hr,hl,hb⟩ hs
  simp only [W5,QQ,Qk]
  refine Uk (fun hc=>?_) (fun hc=>?_)
  · have hi : i < m.length := by
      have:=WF.1 hc
      have h2 : (i : Int) < (m.length : Int):=this
      omega
    refine jd_intro (fun v' d' h'=>∃ row' l',v' = (.str (Str.of m),row',.int .i64 (Int.ofNat i),()) ∧ d' = [] ∧ Row true 5 0 h' row' l' ∧ l'.length ≤ 2 * (i + 1) ∧ h'.base = 0) (fun j hj=>?_) ?_
    · rw [Qe6 hi]
      refine QaZ (m:=[m[i]]) hr (by omega) (Nat.zero_le _) (by simp [QR]; omega) fun v1 h1 r1 l1=>?_
      rw [Qe6 hi]
      rw [eqI_b0]
      refine Uk (fun h0=>?_) fun h0=>?_
      · refine QaZ (m:=[255]) r1 (by rw [l1.base]; omega) (Nat.zero_le _) (by simp [QR]; omega) fun v2 h2 r2 l2=>hj _ _ _ ⟨v2,_,rfl,rfl,r2,by simp; omega,by rw [l2.base,l1.base]; exact hb⟩
      · exact hj _ _ _ ⟨v1,_,rfl,rfl,r1,by simp; omega,by rw [l1.base]; exact hb⟩
    · rintro v' d' h' ⟨row', l', rfl, rfl, hr', hl', hb'⟩
      simp only [QQ,Qn]
      rw [Zn i (by omega)]
      exact hs (m.length - (i + 1)) _ _ _ (by omega) ⟨i + 1,row',l',rfl,rfl,hi,rfl,hr',hl',hb'⟩
  · refine QaZ (m := [0, 1]) hr (by omega) (Nat.zero_le _) (by simp [QR]; omega) fun v1 h1 r1 l1 => ?_
    rw [r1.str]
    exact hk _ (by simp; omega)
def pMid : Str→H→(Str→H→Prop)→Prop:=fun s h k=>∃ l : List UInt8,s = Str.of l ∧ l.length ≤ 128 ∧ ∀ r : List UInt8,r.length ≤ 1000→k (Str.of r) h
def QeP : Str→H→(AV→Int→H→Prop)→Prop:=fun s h k=>∃ l : List UInt8,s = Str.of l ∧ ∀ (a b : Str) (c : Bool),k (.agg [.str a,.str b,.bool c]) (bad (usr s)) h
def GH : Str→H→(Bool→H→Prop)→Prop:=fun s h k=>∃ l : List UInt8,s = Str.of l ∧ fB (usr s) fun b=>k b h
theorem t94 {l : List UInt8} {KL : AV→Int→Prop} (hk : ∀ (a b : Str) (c : Bool) (e : Int),e = bad (usr (Str.of l))→KL (.agg [.str a,.str b,.bool c]) e) : s94G J0 Jo pMid (Str.of l) H0 fun r e _=>KL r e:=by
  unfold s94G
  simp only [Vp]
  conv=>whnf
  refine QC (fun hb=>?_) (fun hb=>?_)
  · have hu : usr (Str.of l) = true := by simpa using hb
    conv=>whnf
    refine ⟨l,rfl,usr_len hu,fun r hr=>?_⟩
    refine Q7 (by rw [Qv]; show 1 + (Str.of r).len ≤ _; rw [Nx]; omega) ?_
    conv=>whnf
    exact hk _ _ _ _ (by rw [hu]; rfl)
  · conv => whnf
    exact hk _ _ _ _ (by rw [hb]; rfl)
theorem t56 {l : List UInt8} (hk : ∀ r,r = usr (Str.of l)→KB r) : s56G J0 QeP (Str.of l) H0 fun r _=>KB r:=by
  conv=>whnf
  refine ⟨l,rfl,fun a b c=>?_⟩
  (repeat' ((conv=>whnf); first | exact hk _ (by simp_all [or_true,Zu,Zv,QA,QT]) | refine ⟨_,_,_,rfl,?_⟩ | refine ⟨_,_,rfl,?_⟩ | (rw [ZD]; generalize hnb : nob _ _ = nb; cases nb) | refine QC (fun _=>?_) (fun _=>?_)))
def V0 (af at' bf bt : Str) (b : Bool) : AV:=cond b (ZF (mFr af bf) (mTo at' bt)) (ZF ⟨0,0⟩ ⟨0,0⟩)
def met (af at' bf bt : Str) : Bool:=!(emp (mFr af bf) (mTo at' bt))
def XP (af at' bf bt : Str) : Bool:=!(emp af at') && (!(emp bf bt) && met af at' bf bt)
theorem t136 {af at' bf bt : Str} (hk : ∀ r e,r = V0 af at' bf bt (met af at' bf bt)→e = met af at' bf bt→KA r e) :
    Qer J0 Nu (ZF af at') (ZF bf bt) H0 fun r e _=>KA r e:=by
  (repeat' ((conv=>whnf); first | exact hk _ _ (by simp_all [V0,met,mTo,ZF,mFr]) (by simp_all [V0,met,mTo,ZF,mFr]) | refine ⟨_,_,rfl,?_⟩ | refine QC (fun _=>?_) (fun _=>?_)))
theorem t143 {af at' bf bt : Str} (hk : ∀ r e,r = V0 af at' bf bt (XP af at' bf bt)→e = XP af at' bf bt→KA r e) :
    Qep J0 Nu (ZF af at') (ZF bf bt) H0 fun r e _=>KA r e:=by
  (repeat' ((conv=>whnf); first | exact hk _ _ (by simp_all [V0,met,XP,mTo,ZF,mFr]) (by simp_all [V0,met,XP,mTo,ZF,mFr]) | refine ⟨_,_,rfl,?_⟩ | refine QC (fun _=>?_) (fun _=>?_)))
end
end Go.Proofs.YtodlaigjjknpkaaGreatDoor
