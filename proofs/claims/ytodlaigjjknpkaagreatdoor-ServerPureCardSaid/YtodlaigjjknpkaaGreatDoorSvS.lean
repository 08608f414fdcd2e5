import Derived.Test.YtodlaigjjknpkaaGreatDoorSvP
noncomputable section
namespace Go.Proofs.YtodlaigjjknpkaaGreatDoor
open Go Go.Am
set_option linter.all false
set_option maxRecDepth 100000
set_option maxHeartbeats 4000000
def n0 (C : Cfg) (X : Ask) : Int:=WD C.ks ((WQ X).headD []) C.nodes
def Jn (C : Cfg) (X : Ask) : Bool:=(WQ X).all fun k=>eqI (WD C.ks k C.nodes) (n0 C X)
def ok0 (C : Cfg) (X : Ask) : Bool:=!(ltI X.id (Int.ofNat 1)) && (!(ltI X.from_ (Int.ofNat 0)) && (ltI X.from_ C.nodes && (okS X.nw X.nl X.nt && XQ C X)))
def Yw (C : Cfg) (X : Ask) : Bool:=Yu C && (ok0 C X && Jn C X)
def Qdq : AV→AV→H→(Bool→H→Prop)→Prop:=fun a b h k=>∃ C X,a = .agg (QG C) ∧ b = .agg (Qx X) ∧ CfgIn h C ∧ AskIn h X ∧ Yu C = true ∧ fB (XQ C X) fun r=>k r h
def f19 : AV→H→(AV→H→Prop)→Prop:=Qej J0
def f21 : AV→H→(AV→Bool→H→Prop)→Prop:=Qeg J0
theorem node_nn {ks : List (List UInt8)} {key : List UInt8} {x : Int} : ltI (WD ks key x) (Int.ofNat 0) = false:=by
  refine Zm.2 ?_
  unfold WD
  exact Int.tmod_nonneg x (Int.natCast_nonneg _)
theorem sts_one {w l t : Int} : Xw [(w,l,t)] = okS w l t:=by unfold Xw; simp [stB]
theorem J8 {C : Cfg} (h : Yu C = true) : JH C.nodes (Int.ofNat 1) (Int.ofNat 7) = true:=by
  unfold Yu at h
  simp only [Bool.and_eq_true] at h
  exact h.1
theorem lr0 {a b c c0 c1 c2 : AV} : Qy 0 [a,b,c] [c0,c1,c2] = some [a,b,c]:=rfl
theorem keyA_pos {X : Ask} (h : 0 < (Yh X).length) : 0 < (WQ X).length:=by
  unfold WQ
  cases KO X
  · show 0 < ((Yh X).take 1).length
    rw [List.length_take]; omega
  · exact h
theorem keyA_le {X : Ask} (h : (Yh X).length ≤ 70) : (WQ X).length ≤ 70:=by
  unfold WQ
  cases KO X
  · show ((Yh X).take 1).length ≤ 70
    rw [List.length_take]; omega
  · exact h
theorem Qcb {l : List (List UInt8)} (h : 0 < l.length) : l.headD [] = l[0]:=by cases l with
  | nil=>simp at h
  | cons a l=>rfl
theorem zz : eqI (Int.ofNat 0) (Int.ofNat 0) = true:=rfl
section
variable {KI : Int→Int→H→Prop} {K1 : Int→H→Prop} {h : H}
theorem t6 {C : Cfg} {X : Ask} (c : CfgIn h C) (x : AskIn h X) (hw : h.base ≤ h.next) (hk : ∀ h', KI (cond (Yw C X) (n0 C X) (Int.ofNat 0)) (bad (Yw C X)) h') :
    s6G J0 KU Gm Qdq f19 DP (.agg (QG C)) (.agg (Qx X)) h KI:=by
  unfold s6G
  rw [QJ,Qw,QJ,Qw]
  have lo0 : Low h.next h (Qh (Qh h (.cells false 27 (QG C))) (.cells false 40 (Qx X))):=(Low.push _ _ _ (Nat.le_refl _)).trans (Low.push _ _ _ (Nat.le_succ _))
  have c1 : CfgIn (Qh (Qh h (.cells false 27 (QG C))) (.cells false 40 (Qx X))) C:=c.low lo0 (Nat.le_refl _)
  have x1 : AskIn (Qh (Qh h (.cells false 27 (QG C))) (.cells false 40 (Qx X))) X:=x.low lo0 (Nat.le_refl _)
  have gC : (Qh (Qh h (.cells false 27 (QG C))) (.cells false 40 (Qx X))).get h.next = .cells false 27 (QG C):=(YE _ (Nat.lt_succ_self _)).trans (QO _ _)
  have gA : (Qh (Qh h (.cells false 27 (QG C))) (.cells false 40 (Qx X))).get (h.next + 1) = .cells false 40 (Qx X):=QO (Qh h (.cells false 27 (QG C))) _
  have nn : (Qh (Qh h (.cells false 27 (QG C))) (.cells false 40 (Qx X))).next = h.next + 2:=rfl
  have b0:=lo0.base
  rw [show (Qh h (.cells false 27 (QG C))).next = h.next + 1 from rfl]
  generalize Qh (Qh h (.cells false 27 (QG C))) (.cells false 40 (Qx X)) = h1 at lo0 c1 x1 gC gA nn b0 ⊢
  rw [QN (n:=10) (o:=0) (l:=QG C) gC rfl]
  refine ⟨C,rfl,c1,?_⟩
  unfold Yw ok0 at hk
  cases e0 : Yu C
  · rw [e0] at hk
    (simp only [↓zA,↓zC,↓Qk,zB,QA])
    exact hk _
  · rw [e0] at hk
    have hc:=Vl e0
    have hx:=J8 e0
    cases e1 : ltI X.id (Int.ofNat 1)
    · rw [e1] at hk
      cases e2 : ltI X.from_ (Int.ofNat 0)
      · rw [e2] at hk
        cases e3 : ltI X.from_ C.nodes
        · rw [e3] at hk
          (simp only [↓zA,↓zC,↓Qk,zB,QA,↓Zy (o:=0) (x:=X.id) gA rfl,e1,↓Zy (o:=1) (x:=X.from_) gA rfl,e2,↓Zy (o:=0) (x:=C.nodes) gC rfl,e3])
          exact hk _
        · rw [e3] at hk
          (simp only [↓zA,↓zC,↓Qk,zB,QA,↓Zy (o:=0) (x:=X.id) gA rfl,e1,↓Zy (o:=1) (x:=X.from_) gA rfl,e2,↓Zy (o:=0) (x:=C.nodes) gC rfl,e3,↓QN (n:=3) (o:=2) (l:=[.int .i64 X.nw,.int .i32 X.nl,.int .i32 X.nt]) gA rfl,↓ck3,↓lr0,↓Z0])
          have lo2 : Low h1.next h1 (Qh h1 (.cells false 29 [.int .i64 X.nw,.int .i32 X.nl,.int .i32 X.nt])):=.push _ _ _ (Nat.le_refl _)
          have gS:=QO h1 (.cells false 29 [.int .i64 X.nw,.int .i32 X.nl,.int .i32 X.nt])
          have nS : h1.next < (Qh h1 (.cells false 29 [.int .i64 X.nw,.int .i32 X.nl,.int .i32 X.nt])).next:=Nat.lt_succ_self _
          generalize Qh h1 (.cells false 29 [.int .i64 X.nw,.int .i32 X.nl,.int .i32 X.nt]) = h2 at lo2 gS nS ⊢
          have b2:=lo2.base
          have gC2 : h2.get h.next = .cells false 27 (QG C):=(lo2.get _ (by omega)).trans gC
          have gA2 : h2.get (h.next + 1) = .cells false 40 (Qx X):=(lo2.get _ (by omega)).trans gA
          refine ⟨[(X.nw,X.nl,X.nt)],.inr ⟨_,_,_,_,_,rfl,gS,nS⟩,(by show 1 ≤ 1000000; decide),?_⟩
          rw [sts_one]
          cases e4 : okS X.nw X.nl X.nt
          · rw [e4] at hk
            (simp only [↓zA,↓zC,↓Qk,zB])
            exact hk _
          · rw [e4] at hk
            (simp only [↓zA,↓zC,↓Qk,zB,↓QN (n:=10) (o:=0) (l:=QG C) gC2 rfl,↓QN (n:=42) (o:=0) (l:=Qx X) gA2 rfl])
            refine ⟨C,X,rfl,rfl,c1.low lo2 (Nat.le_refl _),x1.low lo2 (Nat.le_refl _),e0,?_⟩
            cases e5 : XQ C X
            · rw [e5] at hk
              (simp only [↓zA,↓zC,↓Qk,zB])
              exact hk _
            · rw [e5] at hk
              have hpos:=XX e5
              have hApos:=keyA_pos hpos
              have hAle:=keyA_le (Qb8 x.l0 x.l1)
              (simp only [↓zA,↓zC,↓Qk,zB,↓QN (n:=42) (o:=0) (l:=Qx X) gA2 rfl])
              refine t19 (x1.low lo2 (Nat.le_refl _)) (by omega) hpos fun va ha qr lo3=>?_
              have lo4 : Low h1.next h1 ha:=lo2.trans (lo3.down (by omega))
              have gCa : ha.get h.next = .cells false 27 (QG C):=(lo4.get _ (by omega)).trans gC
              have ca : CfgIn ha C:=c1.low lo4 (Nat.le_refl _)
              rw [qr.len]
              refine Yx (WQ X).length (fun i z h'=>∃ pl,z = (AV.ptr h.next 0,AV.int .i64 pl,va,AV.int .i64 (Int.ofNat (WQ X).length),AV.int .i64 (Int.ofNat i),()) ∧ h' = ha ∧ (i = 0→pl = Int.negSucc 0) ∧ (0 < i→pl = n0 C X) ∧
                ∀ (i' : Nat) (hi' : i' < (WQ X).length),i' < i→eqI (WD C.ks (WQ X)[i'] C.nodes) (n0 C X) = true) (by omega) ?_ ?_ ⟨_,rfl,rfl,fun _=>rfl,fun h=>absurd h (Nat.not_lt_zero _),fun i' _ h=>absurd h (Nat.not_lt_zero _)⟩
              · rintro i z h' self hi ⟨pl, rfl, rfl, hp0, hp1, hp⟩ hs
                obtain ⟨p,p1,p2⟩:=qr.at_ i hi
                (simp only [↓zA,↓zC,↓Qk,zB,Q0 hi,↓p1,↓p2 h' _ (fun _ _=>rfl),↓QW,↓QS (o:=Nat.add 0 1) (v:=C.vs) gCa rfl,↓Zy (o:=Nat.add 0 0) (x:=C.nodes) gCa rfl])
                refine ⟨C.ks,(WQ X)[i],rfl,ca.ks,hc,hx,?_⟩
                cases i with
                | zero =>
                  have hpl:=hp0 rfl
                  subst hpl
                  (simp only [↓zA,↓zC,↓Qk,zB,zz,show ltI (Int.negSucc 0) (Int.ofNat 0) = true from rfl])
                  rw [Zn 0 (by omega)]
                  have e7 : WD C.ks (WQ X)[0] C.nodes = n0 C X:=by unfold n0; rw [Qcb hApos]
                  refine hs _ _ ⟨_,rfl,rfl,fun h=>by omega,fun _=>e7,fun i' hi' hlt=>?_⟩
                  obtain rfl : i' = 0:=by omega
                  exact ZC.2 e7
                | succ j =>
                  have hpl:=hp1 (Nat.succ_pos j)
                  subst hpl
                  have e8 : ltI (n0 C X) (Int.ofNat 0) = false:=node_nn
                  cases e9 : eqI (WD C.ks (WQ X)[j + 1] C.nodes) (n0 C X)
                  · (simp only [↓zA, ↓zC, ↓Qk, zB, zz, e8, e9])
                    have : Jn C X = false:=UY ⟨j + 1,hi,e9⟩
                    have hk:=hk h'
                    rw [this] at hk; exact hk
                  · (simp only [↓zA, ↓zC, ↓Qk, zB, zz, e8, e9])
                    rw [Zn (j + 1) (by omega)]
                    refine hs _ _ ⟨_,rfl,rfl,fun h=>by omega,fun _=>ZC.1 e9,fun i' hi' hlt=>?_⟩
                    by_cases e : i' < j + 1
                    · exact hp i' hi' e
                    · obtain rfl : i' = j + 1 := by omega
                      exact e9
              · rintro z h' self ⟨pl, rfl, rfl, hp0, hp1, hp⟩
                have hpl:=hp1 hApos
                subst hpl
                (simp only [↓zA,↓zC,↓Qk,zB,Q5 (Nat.le_refl (WQ X).length)])
                have : Jn C X = true:=JK fun i hi=>hp i hi hi
                have hk:=hk h'
                rw [this] at hk; exact hk
      · rw [e2] at hk
        (simp only [↓zA,↓zC,↓Qk,zB,QA,↓Zy (o:=0) (x:=X.id) gA rfl,e1,↓Zy (o:=1) (x:=X.from_) gA rfl,e2])
        exact hk _
    · rw [e1] at hk
      (simp only [↓zA,↓zC,↓Qk,zB,QA,↓Zy (o:=0) (x:=X.id) gA rfl,e1])
      exact hk _
end
end Go.Proofs.YtodlaigjjknpkaaGreatDoor
namespace Go.Proofs.YtodlaigjjknpkaaGreatDoor
open Go Go.Am
set_option linter.all false
set_option maxRecDepth 100000
set_option maxHeartbeats 4000000
def Gp : AV→AV→H→(Int→Int→H→Prop)→Prop:=fun a b h k=>∃ C X,a = .agg (QG C) ∧ b = .agg (Qx X) ∧ CfgIn h C ∧ AskIn h X ∧ k (cond (Yw C X) (n0 C X) (Int.ofNat 0)) (bad (Yw C X)) h
def Gq : AV→AV→H→(Int→H→Prop)→Prop:=fun a b h k=>∃ C X,a = .agg (QG C) ∧ b = .agg (Qx X) ∧ CfgIn h C ∧ AskIn h X ∧ k (bad (Yw C X)) h
theorem Gx : ∀ {l : List (List UInt8)} (h : 0 < l.length),l.take 1 = [l[0]]
  | a :: l,_=>by simp
theorem G1 {X : Ask} (h : 0 < (Yh X).length) : (WQ X).headD [] = (Yh X)[0]:=by
  unfold WQ
  cases KO X
  · show ((Yh X).take 1).headD [] = _
    rw [Gx h]; rfl
  · exact Qcb h
section
variable {KI : Int→Int→H→Prop} {K1 : Int→H→Prop} {KB : Bool→H→Prop} {h : H}
theorem t11 {C : Cfg} {X : Ask} (c : CfgIn h C) (x : AskIn h X) (hw : h.base ≤ h.next) (hk : ∀ h', K1 (bad (Yw C X)) h') :
    s11G J0 KU f21 DP UP Qdq (.agg (QG C)) (.agg (Qx X)) h K1:=by
  unfold s11G
  rw [QJ,Qw,QJ,Qw]
  have lo0 : Low h.next h (Qh (Qh h (.cells false 27 (QG C))) (.cells false 40 (Qx X))):=(Low.push _ _ _ (Nat.le_refl _)).trans (Low.push _ _ _ (Nat.le_succ _))
  have c1 : CfgIn (Qh (Qh h (.cells false 27 (QG C))) (.cells false 40 (Qx X))) C:=c.low lo0 (Nat.le_refl _)
  have x1 : AskIn (Qh (Qh h (.cells false 27 (QG C))) (.cells false 40 (Qx X))) X:=x.low lo0 (Nat.le_refl _)
  have gC : (Qh (Qh h (.cells false 27 (QG C))) (.cells false 40 (Qx X))).get h.next = .cells false 27 (QG C):=(YE _ (Nat.lt_succ_self _)).trans (QO _ _)
  have gA : (Qh (Qh h (.cells false 27 (QG C))) (.cells false 40 (Qx X))).get (h.next + 1) = .cells false 40 (Qx X):=QO (Qh h (.cells false 27 (QG C))) _
  have nn : (Qh (Qh h (.cells false 27 (QG C))) (.cells false 40 (Qx X))).next = h.next + 2:=rfl
  have b0:=lo0.base
  rw [show (Qh h (.cells false 27 (QG C))).next = h.next + 1 from rfl]
  generalize Qh (Qh h (.cells false 27 (QG C))) (.cells false 40 (Qx X)) = h1 at lo0 c1 x1 gC gA nn b0 ⊢
  rw [QN (n:=10) (o:=0) (l:=QG C) gC rfl]
  refine ⟨C,rfl,c1,?_⟩
  unfold Yw ok0 at hk
  cases e0 : Yu C
  · rw [e0] at hk
    (simp only [↓zA,↓zC,↓Qk,zB,QA])
    exact hk _
  · rw [e0] at hk
    have hc:=Vl e0
    have hx:=J8 e0
    cases e1 : ltI X.id (Int.ofNat 1)
    · rw [e1] at hk
      cases e2 : ltI X.from_ (Int.ofNat 0)
      · rw [e2] at hk
        cases e3 : ltI X.from_ C.nodes
        · rw [e3] at hk
          (simp only [↓zA,↓zC,↓Qk,zB,QA,↓Zy (o:=0) (x:=X.id) gA rfl,e1,↓Zy (o:=1) (x:=X.from_) gA rfl,e2,↓Zy (o:=0) (x:=C.nodes) gC rfl,e3])
          exact hk _
        · rw [e3] at hk
          (simp only [↓zA,↓zC,↓Qk,zB,QA,↓Zy (o:=0) (x:=X.id) gA rfl,e1,↓Zy (o:=1) (x:=X.from_) gA rfl,e2,↓Zy (o:=0) (x:=C.nodes) gC rfl,e3,↓QN (n:=3) (o:=2) (l:=[.int .i64 X.nw,.int .i32 X.nl,.int .i32 X.nt]) gA rfl])
          refine ⟨_,_,_,rfl,?_⟩
          cases e4 : okS X.nw X.nl X.nt
          · rw [e4] at hk
            (simp only [↓zA,↓zC,↓Qk,zB,QA])
            exact hk _
          · rw [e4] at hk
            (simp only [↓zA,↓zC,↓Qk,zB,QA,↓QN (n:=10) (o:=0) (l:=QG C) gC rfl,↓QN (n:=42) (o:=0) (l:=Qx X) gA rfl])
            refine ⟨C,X,rfl,rfl,c1,x1,e0,?_⟩
            cases e5 : XQ C X
            · rw [e5] at hk
              (simp only [↓zA,↓zC,↓Qk,zB])
              exact hk _
            · rw [e5] at hk
              have hpos:=XX e5
              have hle:=Qb8 x.l0 x.l1
              (simp only [↓zA,↓zC,↓Qk,zB,↓QN (n:=42) (o:=0) (l:=Qx X) gA rfl])
              refine t21 x1 (by omega) fun va ha qr lo3=>?_
              have lo4 : Low h1.next h1 ha:=lo3
              have gCa : ha.get h.next = .cells false 27 (QG C):=(lo4.get _ (by omega)).trans gC
              have ca : CfgIn ha C:=c1.low lo4 (Nat.le_refl _)
              obtain ⟨p,p1,p2⟩:=qr.rdS hpos
              have hn0 : WD C.ks (Yh X)[0] C.nodes = n0 C X:=by unfold n0; rw [G1 hpos]
              (simp only [↓zA,↓zC,↓Qk,zB,↓QS (o:=1) (v:=C.vs) gCa rfl,↓p1,↓p2 ha _ (fun _ _=>rfl),↓Zy (o:=0) (x:=C.nodes) gCa rfl])
              refine ⟨C.ks,(Yh X)[0],rfl,ca.ks,hc,hx,?_⟩
              rw [hn0]
              cases ea : KO X
              · have hs1 : Jn C X = true := by
                  have eA : WQ X = (Yh X).take 1:=by unfold WQ; rw [ea]; rfl
                  unfold Jn
                  rw [eA,Gx hpos]
                  simp [hn0,ZC]
                rw [hs1] at hk
                refine Yx 0 (fun i z h'=>z = (AV.ptr h.next 0,va,AV.bool false,AV.int .i64 (n0 C X),AV.int .i64 (Int.ofNat 1),()) ∧ h' = ha) (by omega) (fun i z h' self hi=>absurd hi (Nat.not_lt_zero i)) ?_ ⟨rfl,rfl⟩
                rintro z h' self ⟨rfl,rfl⟩
                cases e6 : ltI (Int.ofNat 1) (Int.ofNat (Yh X).length)
                · (simp only [↓zA, ↓zC, ↓Qk, zB, ↓qr.len, e6])
                  exact hk _
                · (simp only [↓zA, ↓zC, ↓Qk, zB, ↓qr.len, e6])
                  exact hk _
              · have eA : WQ X = Yh X := by unfold WQ; rw [ea]; rfl
                have h00 : ∀ (i' : Nat) (hi' : i' < (Yh X).length),i' < 0 + 1→eqI (WD C.ks (Yh X)[i'] C.nodes) (n0 C X) = true:=fun i' hi' hlt=>by
                  obtain rfl : i' = 0:=by omega
                  exact ZC.2 hn0
                refine Yx ((Yh X).length - 1) (fun i z h'=>z = (AV.ptr h.next 0,va,AV.bool true,AV.int .i64 (n0 C X),AV.int .i64 (Int.ofNat (i + 1)),()) ∧ h' = ha ∧
                  ∀ (i' : Nat) (hi' : i' < (Yh X).length),i' < i + 1→eqI (WD C.ks (Yh X)[i'] C.nodes) (n0 C X) = true) (by omega) ?_ ?_ ⟨rfl,rfl,h00⟩
                · rintro i z h' self hi ⟨rfl, rfl, hp⟩ hs
                  have hi1 : i + 1 < (Yh X).length:=by omega
                  obtain ⟨p',p3,p4⟩:=qr.rdS hi1
                  (simp only [↓zA,↓zC,↓Qk,zB,↓qr.len,Q0 hi1,↓p3,↓p4 h' _ (fun _ _=>rfl),↓QW,↓QS (o:=Nat.add 0 1) (v:=C.vs) gCa rfl,↓Zy (o:=Nat.add 0 0) (x:=C.nodes) gCa rfl])
                  refine ⟨C.ks,(Yh X)[i + 1],rfl,ca.ks,hc,hx,?_⟩
                  cases e9 : eqI (WD C.ks (Yh X)[i + 1] C.nodes) (n0 C X)
                  · (simp only [↓zA, ↓zC, ↓Qk, zB, e9])
                    have : Jn C X = false:=by unfold Jn; rw [eA]; exact UY ⟨i + 1,hi1,e9⟩
                    have hk:=hk h'
                    rw [this] at hk; exact hk
                  · (simp only [↓zA, ↓zC, ↓Qk, zB, e9])
                    rw [Zn (i + 1) (by omega)]
                    refine hs _ _ ⟨rfl,rfl,fun i' hi' hlt=>?_⟩
                    by_cases e : i' < i + 1
                    · exact hp i' hi' e
                    · obtain rfl : i' = i + 1 := by omega
                      exact e9
                · rintro z h' self ⟨rfl, rfl, hp⟩
                  (simp only [↓zA,↓zC,↓Qk,zB,↓qr.len,Q5 (show (Yh X).length ≤ (Yh X).length - 1 + 1 by omega)])
                  have : Jn C X = true:=by unfold Jn; rw [eA]; exact JK fun i hi=>hp i hi (by omega)
                  have hk:=hk h'
                  rw [this] at hk; exact hk
      · rw [e2] at hk
        (simp only [↓zA,↓zC,↓Qk,zB,QA,↓Zy (o:=0) (x:=X.id) gA rfl,e1,↓Zy (o:=1) (x:=X.from_) gA rfl,e2])
        exact hk _
    · rw [e1] at hk
      (simp only [↓zA,↓zC,↓Qk,zB,QA,↓Zy (o:=0) (x:=X.id) gA rfl,e1])
      exact hk _
theorem placeB_may {C : Cfg} {X : Ask} (h : Yw C X = true) : Yu C = true ∧ XQ C X = true:=by
  unfold Yw ok0 at h
  simp only [Bool.and_eq_true] at h
  exact ⟨h.1,h.2.1.2.2.2.2⟩
theorem t7 {C : Cfg} {X : Ask} (c : CfgIn h C) (x : AskIn h X) (hw : h.base ≤ h.next) (hk : ∀ h',KI (cond (Yw C X) (n0 C X) (Int.ofNat 0)) (bad (Yw C X)) h') :
    s7G J0 Gq f21 DP (.agg (QG C)) (.agg (Qx X)) h KI:=by
  unfold s7G
  rw [QJ,Qw,QJ,Qw]
  have lo0 : Low h.next h (Qh (Qh h (.cells false 27 (QG C))) (.cells false 40 (Qx X))):=(Low.push _ _ _ (Nat.le_refl _)).trans (Low.push _ _ _ (Nat.le_succ _))
  have c1 : CfgIn (Qh (Qh h (.cells false 27 (QG C))) (.cells false 40 (Qx X))) C:=c.low lo0 (Nat.le_refl _)
  have x1 : AskIn (Qh (Qh h (.cells false 27 (QG C))) (.cells false 40 (Qx X))) X:=x.low lo0 (Nat.le_refl _)
  have gC : (Qh (Qh h (.cells false 27 (QG C))) (.cells false 40 (Qx X))).get h.next = .cells false 27 (QG C):=(YE _ (Nat.lt_succ_self _)).trans (QO _ _)
  have gA : (Qh (Qh h (.cells false 27 (QG C))) (.cells false 40 (Qx X))).get (h.next + 1) = .cells false 40 (Qx X):=QO (Qh h (.cells false 27 (QG C))) _
  have nn : (Qh (Qh h (.cells false 27 (QG C))) (.cells false 40 (Qx X))).next = h.next + 2:=rfl
  have b0:=lo0.base
  rw [show (Qh h (.cells false 27 (QG C))).next = h.next + 1 from rfl]
  generalize Qh (Qh h (.cells false 27 (QG C))) (.cells false 40 (Qx X)) = h1 at lo0 c1 x1 gC gA nn b0 ⊢
  (simp only [↓zA,↓zC,↓Qk,zB,↓QN (n:=10) (o:=0) (l:=QG C) gC rfl,↓QN (n:=42) (o:=0) (l:=Qx X) gA rfl])
  refine ⟨C,X,rfl,rfl,c1,x1,?_⟩
  cases e0 : Yw C X
  · rw [e0] at hk
    (simp only [↓zA,↓zC,↓Qk,zB,QA])
    exact hk _
  · rw [e0] at hk
    obtain ⟨e1,e5⟩:=placeB_may e0
    have hc:=Vl e1
    have hx:=J8 e1
    have hpos:=XX e5
    (simp only [↓zA,↓zC,↓Qk,zB,QA,↓QN (n:=42) (o:=0) (l:=Qx X) gA rfl])
    refine t21 x1 (by omega) fun va ha qr lo4=>?_
    have gCa : ha.get h.next = .cells false 27 (QG C):=(lo4.get _ (by omega)).trans gC
    have ca : CfgIn ha C:=c1.low lo4 (Nat.le_refl _)
    obtain ⟨p,p1,p2⟩:=qr.rdS hpos
    have hn0 : WD C.ks (Yh X)[0] C.nodes = n0 C X:=by unfold n0; rw [G1 hpos]
    (simp only [↓zA,↓zC,↓Qk,zB,↓QS (o:=1) (v:=C.vs) gCa rfl,↓p1,↓p2 ha _ (fun _ _=>rfl),↓Zy (o:=0) (x:=C.nodes) gCa rfl])
    refine ⟨C.ks,(Yh X)[0],rfl,ca.ks,hc,hx,?_⟩
    rw [hn0]; exact hk _
theorem t10 {C : Cfg} {X : Ask} (c : CfgIn h C) (x : AskIn h X) (hw : h.base ≤ h.next) (hk : ∀ h',K1 (bad (Yw C X)) h') : s10G J0 Gp (.agg (QG C)) (.agg (Qx X)) h K1:=by
  unfold s10G
  rw [QJ,Qw,QJ,Qw]
  have lo0 : Low h.next h (Qh (Qh h (.cells false 27 (QG C))) (.cells false 40 (Qx X))):=(Low.push _ _ _ (Nat.le_refl _)).trans (Low.push _ _ _ (Nat.le_succ _))
  have gC : (Qh (Qh h (.cells false 27 (QG C))) (.cells false 40 (Qx X))).get h.next = .cells false 27 (QG C):=(YE _ (Nat.lt_succ_self _)).trans (QO _ _)
  have gA : (Qh (Qh h (.cells false 27 (QG C))) (.cells false 40 (Qx X))).get (h.next + 1) = .cells false 40 (Qx X):=QO (Qh h (.cells false 27 (QG C))) _
  rw [show (Qh h (.cells false 27 (QG C))).next = h.next + 1 from rfl]
  rw [QN (n:=10) (o:=0) (l:=QG C) gC rfl,QN (n:=42) (o:=0) (l:=Qx X) gA rfl]
  exact ⟨C,X,rfl,rfl,c.low lo0 (Nat.le_refl _),x.low lo0 (Nat.le_refl _),hk _⟩
end
end Go.Proofs.YtodlaigjjknpkaaGreatDoor
namespace Go.Proofs.YtodlaigjjknpkaaGreatDoor
open Go Go.Am
set_option linter.all false
set_option maxRecDepth 100000
set_option maxHeartbeats 4000000
theorem fBe {c b : Bool} (e : c = b) (k : Bool→Prop) : fB c k = k b:=by rw [e,Qk]
theorem fBn_f {c : Bool} (e : c = false) (k : Bool→Prop) : fB (Bool.not c) k = k true:=by rw [e]; rfl
structure AskRows (h : H) (X : Ask) : Prop where
  keys : QY h X.vk X.keys
  wrs : RowAt wrc 3 h X.vw X.wrs
  rkeys : QY h X.vr X.rkeys
  known : RowAt No 2 h X.vn X.known
  kc : ∀ id o n c es ex,X.vk = .slice id o n c es ex→n ≤ c
theorem AskRows.low {h h' : H} {X : Ask} (c : AskRows h X) {n : Nat} (lo : Low n h h') (hn : h.next ≤ n) : AskRows h' X:=⟨c.keys.low lo hn,c.wrs.low lo hn,c.rkeys.low lo hn,c.known.low lo hn,c.kc⟩
def smB (X : Ask) : Bool:=!(ltI (Int.ofNat 70) (Int.ofNat X.keys.length)) && (!(ltI (Int.ofNat 70) (Int.ofNat X.wrs.length)) && (!(ltI (Int.ofNat 70) (Int.ofNat X.known.length)) && (!(ltI (Int.ofNat 70) (Int.ofNat X.rkeys.length)) &&
  (!(ltI (Int.ofNat 1000) (Int.ofNat X.fr.length)) && !(ltI (Int.ofNat 1000) (Int.ofNat X.to.length))))))
theorem le70 {n : Nat} (h : ltI (Int.ofNat 70) (Int.ofNat n) = false) : n ≤ 70:=by
  have:=Zm.1 h
  have h2 : (n : Int) ≤ (70 : Int):=this
  omega
theorem AskRows.ask {h : H} {X : Ask} (x : AskRows h X) (hs : smB X = true) : AskIn h X:=by
  unfold smB at hs
  simp only [Bool.and_eq_true,Bool.not_eq_true'] at hs
  exact ⟨x.keys,x.wrs,x.rkeys,x.known,le70 hs.1,le70 hs.2.1,le70 hs.2.2.2.1,le70 hs.2.2.1,x.kc⟩
def Dl (X : Ask) : List AV:=.int .i64 0 :: (Qx X ++ [.int .i64 0,.int .i64 0,.int .i64 0])
theorem GL {α : Type} {o : Option α} {a : α} {k : α→Prop} (h : o = some a) (hk : k a) : op' o k:=by rw [h]; exact hk
theorem ones_ask {X : Ask} {h : H} (x : AskRows h X) : ZN (Qx X) = true:=by
  have e : ZN (Qx X) = Bool.rec (motive:=fun _=>Bool) false (Bool.rec (motive:=fun _=>Bool) false (Bool.rec (motive:=fun _=>Bool) false (Bool.rec (motive:=fun _=>Bool) false true (ZQ X.vn)) (ZQ X.vr)) (ZQ X.vw)) (ZQ X.vk):=rfl
  rw [e,Y4 x.keys,Y4 x.wrs,Y4 x.rkeys,Y4 x.known]
theorem Vf {α : Type} {f : α→List AV} {es : Nat} {h : H} {v : AV} {l : List α} (q : RowAt f es h v l) : AV.same v v = true:=by
  rcases q with ⟨rfl,rfl⟩ | ⟨id,c,ex,mm,tt,rfl,q2,q3⟩ <;> simp [AV.same]
theorem DD {h : H} {C : Cfg} (c : CfgIn h C) : AV.same (.agg (QG C)) (.agg (QG C)) = true:=by
  simp [QG,AV.same,AV.same.sames,Vf c.ks,Vf c.hs]
theorem same_ask {h : H} {X : Ask} (x : AskRows h X) : AV.same (.agg (Qx X)) (.agg (Qx X)) = true:=by
  simp [Qx,AV.same,AV.same.sames,Vf x.keys,Vf x.wrs,Vf x.rkeys,Vf x.known]
theorem X4 (a : Int) : eqI a a = true:=ZC.2 rfl
section
variable {KB : Bool→H→Prop} {h : H}
theorem t5 {X : Ask} {n : Nat} (x : AskRows h X) (hw : h.base ≤ h.next) (g : h.get n = .cells false 44 (Dl X)) (hn : n < h.next) (hk : ∀ h', Low h.next h h' → KB (smB X) h') : s5G J0 (.slice n 0 1 1 46 true) h KB := by
  unfold s5G
  unfold smB at hk
  refine Yx 1 (fun i z h'=>z = (AV.slice n 0 1 1 46 true,AV.int .i64 (Int.ofNat i),()) ∧ Low h.next h h' ∧ (0 < i→∀ h',Low h.next h h'→KB true h')) (by omega) ?_ ?_ ⟨rfl,.refl _ _,fun h=>absurd h (Nat.not_lt_zero _)⟩
  · rintro i z h1 self hi ⟨rfl, lo, _⟩ hs
    obtain rfl : i = 0:=by omega
    have n1:=lo.next
    have b1:=lo.base
    have ga : h1.get n = .cells false 44 (Dl X):=(lo.get _ hn).trans g
    have lo2 : Low h.next h (Qh h1 (.cells false 40 (Qx X))):=lo.trans (.push _ _ _ n1)
    have gA:=QO h1 (.cells false 40 (Qx X))
    have hst : ∀ k : H→Prop,stN 42 (AV.ptr h1.next 0) (Qx X) (Qh h1 (.cells false 40 [(.int .i64 0),(.int .i64 0),(.int .i64 0),(.int .i32 0),(.int .i32 0),(.int .i64 0),(.int .i32 0),(.int .i32 0),(.int .i64 0),(.int .i32 0),(.int .i32 0),(.int .i64 0),(.int .i32 0),(.int .i32 0),(.str ⟨0,0⟩),(.str ⟨0,0⟩),(.str ⟨0,0⟩),(.int .i64 0),(.int .i32 0),(.int .i32 0),(.int .i64 0),(.int .i32 0),(.int .i32 0),(.int .i64 0),(.int .i32 0),(.int .i32 0),(.nils),(.nils),(.bool false),(.bool false),(.int .i32 0),(.int .i32 0),(.int .u8 0),(.int .i64 0),(.int .i32 0),(.int .i32 0),(.nils),(.int .i64 0),(.int .i64 0),(.int .i32 0),(.int .i32 0),(.nils)])) k = k (Qh h1 (.cells false 40 (Qx X))):=fun k=>Jm (n:=42) rfl (ones_ask x) rfl (by omega) k
    have hk:=fun h' lo'=>hk h' lo'
    cases e1 : ltI (Int.ofNat 70) (Int.ofNat X.keys.length)
    · rw [e1] at hk
      cases e2 : ltI (Int.ofNat 70) (Int.ofNat X.wrs.length)
      · rw [e2] at hk
        cases e3 : ltI (Int.ofNat 70) (Int.ofNat X.known.length)
        · rw [e3] at hk
          cases e4 : ltI (Int.ofNat 70) (Int.ofNat X.rkeys.length)
          · rw [e4] at hk
            cases e5 : ltI (Int.ofNat 1000) (Int.ofNat X.fr.length)
            · rw [e5] at hk
              cases e6 : ltI (Int.ofNat 1000) (Int.ofNat X.to.length)
              · rw [e6] at hk
                (simp only [↓zA,↓zC,↓Ye,↓fBe (Q0 hi),↓D1 hi,↓QW,↓QN (n:=42) (o:=Nat.add (0 * 46) 1) (l:=Qx X) ga rfl,↓hst,↓QS (o:=26) (v:=X.vk) gA rfl,↓x.keys.len,↓fBe e1,↓QS (o:=27) (v:=X.vw) gA rfl,↓x.wrs.len,↓fBe e2,↓QS (o:=41) (v:=X.vn) gA rfl,↓x.known.len,↓fBe e3,↓QS (o:=Nat.add 30 6) (v:=X.vr) gA rfl,↓x.rkeys.len,↓fBe e4,↓ZG (o:=Nat.add 15 0) (x:=Str.of X.fr) gA rfl,↓fBe (show ltI (Int.ofNat 1000) (Int.ofNat (Str.of X.fr).len) = _ from e5),↓ZG (o:=Nat.add 15 1) (x:=Str.of X.to) gA rfl,↓fBe (show ltI (Int.ofNat 1000) (Int.ofNat (Str.of X.to).len) = _ from e6)])
                rw [Zn 0 (by omega)]
                exact hs _ _ ⟨rfl,lo2,fun _ h' lo'=>hk h' lo'⟩
              · rw [e6] at hk
                (simp only [↓zA,↓zC,↓Ye,↓fBe (Q0 hi),↓D1 hi,↓QW,↓QN (n:=42) (o:=Nat.add (0 * 46) 1) (l:=Qx X) ga rfl,↓hst,↓QS (o:=26) (v:=X.vk) gA rfl,↓x.keys.len,↓fBe e1,↓QS (o:=27) (v:=X.vw) gA rfl,↓x.wrs.len,↓fBe e2,↓QS (o:=41) (v:=X.vn) gA rfl,↓x.known.len,↓fBe e3,↓QS (o:=Nat.add 30 6) (v:=X.vr) gA rfl,↓x.rkeys.len,↓fBe e4,↓ZG (o:=Nat.add 15 0) (x:=Str.of X.fr) gA rfl,↓fBe (show ltI (Int.ofNat 1000) (Int.ofNat (Str.of X.fr).len) = _ from e5),↓ZG (o:=Nat.add 15 1) (x:=Str.of X.to) gA rfl,↓fBe (show ltI (Int.ofNat 1000) (Int.ofNat (Str.of X.to).len) = _ from e6)])
                exact hk _ lo2
            · rw [e5] at hk
              (simp only [↓zA,↓zC,↓Ye,↓fBe (Q0 hi),↓D1 hi,↓QW,↓QN (n:=42) (o:=Nat.add (0 * 46) 1) (l:=Qx X) ga rfl,↓hst,↓QS (o:=26) (v:=X.vk) gA rfl,↓x.keys.len,↓fBe e1,↓QS (o:=27) (v:=X.vw) gA rfl,↓x.wrs.len,↓fBe e2,↓QS (o:=41) (v:=X.vn) gA rfl,↓x.known.len,↓fBe e3,↓QS (o:=Nat.add 30 6) (v:=X.vr) gA rfl,↓x.rkeys.len,↓fBe e4,↓ZG (o:=Nat.add 15 0) (x:=Str.of X.fr) gA rfl,↓fBe (show ltI (Int.ofNat 1000) (Int.ofNat (Str.of X.fr).len) = _ from e5)])
              exact hk _ lo2
          · rw [e4] at hk
            (simp only [↓zA,↓zC,↓Ye,↓fBe (Q0 hi),↓D1 hi,↓QW,↓QN (n:=42) (o:=Nat.add (0 * 46) 1) (l:=Qx X) ga rfl,↓hst,↓QS (o:=26) (v:=X.vk) gA rfl,↓x.keys.len,↓fBe e1,↓QS (o:=27) (v:=X.vw) gA rfl,↓x.wrs.len,↓fBe e2,↓QS (o:=41) (v:=X.vn) gA rfl,↓x.known.len,↓fBe e3,↓QS (o:=Nat.add 30 6) (v:=X.vr) gA rfl,↓x.rkeys.len,↓fBe e4])
            exact hk _ lo2
        · rw [e3] at hk
          (simp only [↓zA,↓zC,↓Ye,↓fBe (Q0 hi),↓D1 hi,↓QW,↓QN (n:=42) (o:=Nat.add (0 * 46) 1) (l:=Qx X) ga rfl,↓hst,↓QS (o:=26) (v:=X.vk) gA rfl,↓x.keys.len,↓fBe e1,↓QS (o:=27) (v:=X.vw) gA rfl,↓x.wrs.len,↓fBe e2,↓QS (o:=41) (v:=X.vn) gA rfl,↓x.known.len,↓fBe e3])
          exact hk _ lo2
      · rw [e2] at hk
        (simp only [↓zA,↓zC,↓Ye,↓fBe (Q0 hi),↓D1 hi,↓QW,↓QN (n:=42) (o:=Nat.add (0 * 46) 1) (l:=Qx X) ga rfl,↓hst,↓QS (o:=26) (v:=X.vk) gA rfl,↓x.keys.len,↓fBe e1,↓QS (o:=27) (v:=X.vw) gA rfl,↓x.wrs.len,↓fBe e2])
        exact hk _ lo2
    · rw [e1] at hk
      (simp only [↓zA,↓zC,↓Ye,↓fBe (Q0 hi),↓D1 hi,↓QW,↓QN (n:=42) (o:=Nat.add (0 * 46) 1) (l:=Qx X) ga rfl,↓hst,↓QS (o:=26) (v:=X.vk) gA rfl,↓x.keys.len,↓fBe e1])
      exact hk _ lo2
  · rintro z h1 self ⟨rfl, lo, hp⟩
    (simp only [↓zA,↓zC,↓Ye,↓fBe (Q5 (Nat.le_refl 1)),↓fBn_f (show ltI (Int.ofNat 40) (Int.ofNat 1) = false from rfl)])
    exact hp Nat.one_pos _ lo
def f5 : AV→H→(Bool→H→Prop)→Prop:=s5G J0
def QeO (Q : H→Prop) : Fun:=fun xs h k=>xs = [] ∧ Q h ∧ k (.bool true) h
theorem t3 {C : Cfg} {X : Ask} (Q : H→Prop) (c : CfgIn h C) (x : AskRows h X) (hw : h.base ≤ h.next) (hQ : ∀ h',Low h.next h h'→Q h') (hk : ∀ h',KB true h') :
    s3G J0 (QeO Q) f5 Gp Gp KU KU Gq Gq (.agg (QG C)) (.agg (Qx X)) h KB:=by
  unfold s3G
  rw [QJ,Qw,QJ,Qw]
  have lo0 : Low h.next h (Qh (Qh h (.cells false 27 (QG C))) (.cells false 40 (Qx X))):=(Low.push _ _ _ (Nat.le_refl _)).trans (Low.push _ _ _ (Nat.le_succ _))
  have c1 : CfgIn (Qh (Qh h (.cells false 27 (QG C))) (.cells false 40 (Qx X))) C:=c.low lo0 (Nat.le_refl _)
  have x1 : AskRows (Qh (Qh h (.cells false 27 (QG C))) (.cells false 40 (Qx X))) X:=x.low lo0 (Nat.le_refl _)
  have gC : (Qh (Qh h (.cells false 27 (QG C))) (.cells false 40 (Qx X))).get h.next = .cells false 27 (QG C):=(YE _ (Nat.lt_succ_self _)).trans (QO _ _)
  have gA : (Qh (Qh h (.cells false 27 (QG C))) (.cells false 40 (Qx X))).get (h.next + 1) = .cells false 40 (Qx X):=QO (Qh h (.cells false 27 (QG C))) _
  have nn : (Qh (Qh h (.cells false 27 (QG C))) (.cells false 40 (Qx X))).next = h.next + 2:=rfl
  have b0:=lo0.base
  rw [show (Qh h (.cells false 27 (QG C))).next = h.next + 1 from rfl]
  generalize Qh (Qh h (.cells false 27 (QG C))) (.cells false 40 (Qx X)) = h1 at lo0 c1 x1 gC gA nn b0 ⊢
  refine ⟨rfl,hQ _ lo0,?_⟩
  dsimp only
  rw [Vs,Qk,show Bool.not true = false from rfl,Wi,QN (n:=42) (o:=0) (l:=Qx X) gA rfl]
  refine Q7 rfl (GL (a:=Dl X) rfl (Q7 rfl (GL (a:=Dl X) rfl ?_)))
  rw [Qw]
  have lo2 : Low h1.next h1 (Qh h1 (.cells false 44 (Dl X))):=.push _ _ _ (Nat.le_refl _)
  have gT:=QO h1 (.cells false 44 (Dl X))
  have nT : h1.next < (Qh h1 (.cells false 44 (Dl X))).next:=Nat.lt_succ_self _
  have wT : (Qh h1 (.cells false 44 (Dl X))).base ≤ (Qh h1 (.cells false 44 (Dl X))).next:=by rw [Q4,QU]; omega
  refine t5 (x1.low lo2 (Nat.le_refl _)) wT gT nT fun h2 lo3=>?_
  have lo4 : Low h1.next h1 h2:=lo2.trans (lo3.down (Nat.le_succ _))
  have b4:=lo4.base
  have n4:=lo4.next
  have gC2 : h2.get h.next = .cells false 27 (QG C):=(lo4.get _ (by omega)).trans gC
  have gA2 : h2.get (h.next + 1) = .cells false 40 (Qx X):=(lo4.get _ (by omega)).trans gA
  have c2:=c1.low lo4 (Nat.le_refl _)
  have x2:=x1.low lo4 (Nat.le_refl _)
  cases hs : smB X
  · exact hk _
  · have xi := x2.ask hs
    rw [Qk,show Bool.not true = false from rfl,Wi,QN (n:=10) (o:=0) (l:=QG C) gC2 rfl,QN (n:=42) (o:=0) (l:=Qx X) gA2 rfl]
    refine ⟨C,X,rfl,rfl,c2,xi,?_⟩
    dsimp only
    rw [QN (n:=10) (o:=0) (l:=QG C) gC2 rfl,QN (n:=42) (o:=0) (l:=Qx X) gA2 rfl]
    refine ⟨C,X,rfl,rfl,c2,xi,?_⟩
    dsimp only
    rw [QN (n:=10) (o:=0) (l:=QG C) gC2 rfl,QN (n:=10) (o:=0) (l:=QG C) gC2 rfl]
    refine ⟨C,rfl,c2,?_⟩
    refine Q7 (VD (Kv (l:=QG C) gC2 rfl) (DD c2)) ?_
    refine ⟨C,rfl,c2,?_⟩
    (simp only [↓zA,↓zC,↓fBe (X4 (bad (Yu C))),↓QN (n:=10) (o:=0) (l:=QG C) gC2 rfl,↓QN (n:=42) (o:=0) (l:=Qx X) gA2 rfl])
    refine ⟨C,X,rfl,rfl,c2,xi,?_⟩
    refine Q7 (show Zj _ _ = true from VD (Kv (l:=Qx X) gA2 rfl) (same_ask x2)) (Q7 (show Zj _ _ = true from VD (Kv (l:=QG C) gC2 rfl) (DD c2)) ?_)
    refine ⟨C,X,rfl,rfl,c2,xi,?_⟩
    (simp only [↓zA,↓zC,↓fBe (X4 (bad (Yw C X))),↓fBe (X4 (cond (Yw C X) (n0 C X) (Int.ofNat 0)))])
    exact hk _
end
end Go.Proofs.YtodlaigjjknpkaaGreatDoor
