import Derived.Test.YtodlaigjjknpkaaGreatDoorSvH
import Derived.Test.YtodlaigjjknpkaaGreatDoorSvA2
noncomputable section
namespace Go.Proofs.YtodlaigjjknpkaaGreatDoor
open Go Go.Am
set_option linter.all false
set_option maxRecDepth 100000
def frO (ks : List (List UInt8)) : Nat→Str
  | 0=>⟨0,0⟩
  | j + 1=>Str.of (ks.getD j [])
theorem Vo (ks : List (List UInt8)) (j : Nat) : frO ks (j + 1) = Str.of (ks.getD j []):=rfl
def toO (ks : List (List UInt8)) (i : Nat) : Str:=Str.of (ks.getD i [])
theorem ZM {ks : List (List UInt8)} {i : Nat} (h : i < ks.length) : ks.getD i [] = ks[i]:=by simp [List.getD_eq_getElem?_getD,h]
theorem Jw {ks : List (List UInt8)} {i : Nat} (h : ks.length ≤ i) : ks.getD i [] = []:=by simp [List.getD_eq_getElem?_getD,h]
def pSpn : AV→Int→H→(AV→Int→H→Prop)→Prop:=fun v x h k=>∃ (ks : List (List UInt8)) (i : Nat),x = Int.ofNat i ∧ QY h v ks ∧ eqI (YJ ks) (Int.ofNat 0) = true ∧ i ≤ ks.length ∧ k (ZF (frO ks i) (toO ks i)) (Int.ofNat 0) h
theorem Wv {ks : List (List UInt8)} (h : eqI (YJ ks) (Int.ofNat 0) = true) : ks.length ≤ 15 ∧ QfM neB ks ∧ Gg ks:=by
  unfold YJ at h
  cases h1 : ltI (Int.ofNat 15) (Int.ofNat ks.length)
  · rw [h1] at h
    have:=Zm.1 h1
    have h2 : (ks.length : Int) ≤ (15 : Int):=this
    cases h3 : Gv neB ks
    · rw [h3] at h; cases h
    · rw [h3] at h
      cases h4 : Qa2 ks
      · rw [h4] at h; cases h
      · exact ⟨by omega,Up.1 h3,JM.1 h4⟩
  · rw [h1] at h; cases h
theorem HXn (b0 b1 b2 b3 b4 b5 : Blk) : (HX b0 b1 b2 b3 b4 b5).next = 6:=rfl
section
variable {K : Int→Prop} {KB : Bool→Prop} {KI : AV→Int→Prop} {b0 b1 b2 b3 b4 b5 : Blk}
theorem t135 {v : AV} {ks : List (List UInt8)} (q : QY (HX b0 b1 b2 b3 b4 b5) v ks) (hc : eqI (YJ ks) (Int.ofNat 0) = true) {i : Nat} (hi : i ≤ ks.length) (hk : ∀ r e,r = ZF (frO ks i) (toO ks i)→e = Int.ofNat 0→KI r e) :
    Qbz J0 V4 v (Int.ofNat i) (HX b0 b1 b2 b3 b4 b5) fun r e _=>KI r e:=by
  have hl:=(Wv hc).1
  unfold Qbz
  rw [Qw]
  refine ⟨ks,q.push _,?_⟩
  have q2 : QY (Qh (Qh (HX b0 b1 b2 b3 b4 b5) (.cells false 33 [.str ⟨0,0⟩,.str ⟨0,0⟩])) (.cells false 33 [.str ⟨0,0⟩,.str ⟨0,0⟩])) v ks:=(q.push _).push _
  (simp only [↓zA,Qk,Qn,zB,hc,Q5 (Nat.zero_le i),q.len,Q5 hi,Yv,Qw,QU,HXn,Nat.reduceAdd])
  cases i with
  | zero =>
    (simp only [↓zA,Qk,Qn,zB,Q5 (Nat.le_refl 0)])
    by_cases h1 : 0 < ks.length
    · obtain ⟨p, p1, p2⟩ := rd q2 h1
      (simp only [↓zA,Qk,Qn,zB,Q0 h1,p1,p2])
      (simp only [Qh,QL,HX,Nat.succ_eq_add_one,Nat.reduceAdd])
      conv=>whnf
      exact hk _ _ (by unfold toO; rw [ZM h1]; first | done | rfl) rfl
    · (simp only [↓zA, Qk, Qn, zB, Q5 (Nat.le_of_not_lt h1)])
      (simp only [Qh,QL,HX,Nat.succ_eq_add_one,Nat.reduceAdd])
      conv=>whnf
      exact hk _ _ (by unfold toO; rw [Jw (by omega)]; first | done | rfl) rfl
  | succ j =>
    obtain ⟨p,p1,p2⟩:=rd q2 (i:=j) (by omega)
    (simp only [↓zA,Qk,Qn,zB,Q0 (Nat.zero_lt_succ j),JF j (by omega),p1,p2])
    have q3 : QY (QL (Qh (Qh (HX b0 b1 b2 b3 b4 b5) (.cells false 33 [.str ⟨0,0⟩,.str ⟨0,0⟩])) (.cells false 33 [.str ⟨0,0⟩,.str ⟨0,0⟩])) 7 (.cells false 33 [.str (Str.of ks[j]),.str ⟨0,0⟩])) v ks :=
      q.low (n:=6) (by (((try (simp only [Qh,QL,HX,Nat.succ_eq_add_one,Nat.reduceAdd])); refine ⟨rfl,Nat.le_of_ble_eq_true rfl,fun id hid=>?_⟩; match id,hid with | 0,_=>rfl | 1,_=>rfl | 2,_=>rfl | 3,_=>rfl | 4,_=>rfl | 5,_=>rfl | n + 6,hn=>exact absurd hn (by omega)))) (Nat.le_refl 6)
    rw [stV_at (cs':=[.str (Str.of ks[j]),.str ⟨0,0⟩]) (i:=7) (o:=0) (m:=false) (t:=33) (cs:=[.str ⟨0,0⟩,.str ⟨0,0⟩]) (by (simp only [Qh,QL,HX,Nat.succ_eq_add_one,Nat.reduceAdd]); rfl) rfl rfl (by exact Nat.le_of_ble_eq_true rfl) (by exact Nat.le_of_ble_eq_true rfl)]
    by_cases h1 : j + 1 < ks.length
    · obtain ⟨p', p3, p4⟩ := rd q3 h1
      (simp only [↓zA,Qk,Qn,zB,Q0 h1,p3,p4])
      (simp only [Qh,QL,HX,Nat.succ_eq_add_one,Nat.reduceAdd])
      conv=>whnf
      exact hk _ _ (by rw [Vo]; unfold toO; rw [ZM h1,ZM (show j < ks.length by omega)]; first | done | rfl) rfl
    · (simp only [↓zA, Qk, Qn, zB, Q5 (Nat.le_of_not_lt h1)])
      (simp only [Qh,QL,HX,Nat.succ_eq_add_one,Nat.reduceAdd])
      conv=>whnf
      exact hk _ _ (by rw [Vo]; unfold toO; rw [Jw (i:=j + 1) (by omega),ZM (show j < ks.length by omega)]; first | done | rfl) rfl
end
def spc (s : Str × Str) : List AV:=[.str s.1,.str s.2]
def X6 (ks : List (List UInt8)) (fr to : Str) : Nat→Nat
  | 0=>0
  | i + 1=>X6 ks fr to i + cond (met (frO ks i) (toO ks i) fr to) 1 0
theorem Dc (ks : List (List UInt8)) (fr to : Str) : ∀ i,X6 ks fr to i ≤ i
  | 0=>Nat.le_refl 0
  | i + 1 => by
    have:=Dc ks fr to i
    unfold X6
    cases met (frO ks i) (toO ks i) fr to <;> simp <;> omega
def parts (ks : List (List UInt8)) (fr to : Str) : Nat:=cond (emp fr to) 0 (X6 ks fr to (ks.length + 1))
def pMet : AV→AV→H→(AV→Bool→H→Prop)→Prop:=fun a b h k=>∃ af at' bf bt,a = ZF af at' ∧ b = ZF bf bt ∧ fB (met af at' bf bt) fun e=>k (V0 af at' bf bt e) e h
def QbR : AV→AV→H→(AV→Bool→H→Prop)→Prop:=fun a b h k=>∃ af at' bf bt,a = ZF af at' ∧ b = ZF bf bt ∧ fB (XP af at' bf bt) fun e=>k (V0 af at' bf bt e) e h
theorem QbX (af at' bf bt : Str) : V0 af at' bf bt true = .agg [.str (mFr af bf),.str (mTo at' bt)]:=rfl
theorem QbY (af at' bf bt : Str) : V0 af at' bf bt false = .agg [.str ⟨0,0⟩,.str ⟨0,0⟩]:=rfl
section
variable {KP : AV→Int→H→Prop} {h : H}
theorem t85 {v : AV} {ks : List (List UInt8)} {fr to : Str} (q : QY h v ks) (hw : h.base ≤ h.next) (hc : eqI (YJ ks) (Int.ofNat 0) = true)
    (hk : ∀ v' h',(∀ k,Q6 v' k = k (parts ks fr to))→KP v' (Int.ofNat 0) h') : QdO J0 V4 Nu pSpn pMet v (ZF fr to) h KP:=by
  have hl:=(Wv hc).1
  unfold QdO
  rw [ZF,QJ,Qw]
  refine ⟨ks,q.push _,?_⟩
  (simp only [↓zA,Qk,Qn,zB,hc])
  rw [VJ]
  refine ⟨_,_,rfl,?_⟩
  unfold parts at hk
  cases he : emp fr to
  · rw [he] at hk
    (simp only [↓zA,Qk,Qn,zB,q.len])
    rw [Zn _ (by omega)]
    have q1 : QY (Qh h (.cells false 33 [.str fr,.str to])) v ks:=q.push _
    have g1 : (Qh h (.cells false 33 [.str fr,.str to])).get h.next = .cells false 33 [.str fr,.str to]:=QO h _
    have hw1 : (Qh h (.cells false 33 [.str fr,.str to])).base ≤ (Qh h (.cells false 33 [.str fr,.str to])).next:=by rw [Q4,QU]; omega
    have hn1 : h.next < (Qh h (.cells false 33 [.str fr,.str to])).next:=Nat.lt_succ_self _
    generalize Qh h (.cells false 33 [.str fr,.str to]) = h1 at q1 g1 hw1 hn1
    refine Yx (ks.length + 1) (fun i x h'=>∃ out l,x = (v,AV.ptr h.next 0,out,AV.int .i64 (Int.ofNat (ks.length + 1)),AV.int .i64 (Int.ofNat i),()) ∧ Low h1.next h1 h' ∧ Grow spc 33 2 h1.next h' out l ∧ l.length = X6 ks fr to i) (by omega) ?_ ?_ ⟨_,[],rfl,.refl _ _,.nil _ _ _ _ _,rfl⟩
    · rintro i x h' self hi ⟨out, l, rfl, lo, g, hlen⟩ hs
      have hcn:=Dc ks fr to i
      have n1:=lo.next
      have b1:=lo.base
      (simp only [↓zA,Qk,Qn,zB,Q0 hi,Yv])
      refine ⟨ks,i,rfl,q1.low lo (Nat.le_refl _),hc,by omega,?_⟩
      dsimp only
      rw [Qw,ZF,QJ,Ux rfl (by omega),VJ]
      have lo2 : Low h1.next h1 (Qh h' (.cells false 33 [.str (frO ks i),.str (toO ks i)])):=lo.trans (.push _ _ _ n1)
      have g2 : Grow spc 33 2 h1.next (Qh h' (.cells false 33 [.str (frO ks i),.str (toO ks i)])) out l:=g.keep (.push h'.next _ _ (Nat.le_refl _)) (Nat.le_refl _)
      generalize Qh h' (.cells false 33 [.str (frO ks i),.str (toO ks i)]) = h2 at lo2 g2
      have n2:=lo2.next
      have b2:=lo2.base
      rw [QN (l:=[.str fr,.str to]) ((lo2.get _ hn1).trans g1) rfl]
      refine ⟨_,_,_,_,rfl,rfl,?_⟩
      cases hm : met (frO ks i) (toO ks i) fr to
      · rw [Qk, QbY]; dsimp only
        rw [Qw,QJ,Ux rfl (by omega)]
        (simp only [↓zA,Qk,Qn,zB])
        rw [Zn i (by omega)]
        refine hs _ _ ⟨out,l,rfl,lo2.trans (.push _ _ _ n2),g2.keep (.push h2.next _ _ (Nat.le_refl _)) (Nat.le_refl _),?_⟩
        rw [hlen,X6,hm]; rfl
      · rw [Qk, QbX]; dsimp only
        rw [Qw,QJ,Ux rfl (by omega),WR,VJ]
        have lo3 : Low h1.next h1 (Qh h2 (.cells false 33 [.str (mFr (frO ks i) fr),.str (mTo (toO ks i) to)])):=lo2.trans (.push _ _ _ n2)
        have g3 : Grow spc 33 2 h1.next (Qh h2 (.cells false 33 [.str (mFr (frO ks i) fr),.str (mTo (toO ks i) to)])) out l:=g2.keep (.push h2.next _ _ (Nat.le_refl _)) (Nat.le_refl _)
        generalize Qh h2 (.cells false 33 [.str (mFr (frO ks i) fr),.str (mTo (toO ks i) to)]) = h3 at lo3 g3
        have n3:=lo3.next
        have b3:=lo3.base
        refine Q7 rfl ?_
        rw [Qb1,Z0,Qw]
        refine VT (f:=spc) (a:=(mFr (frO ks i) fr,mTo (toO ks i) to)) (g3.keep (.push h3.next _ _ (Nat.le_refl _)) (Nat.le_refl _)) (fun _=>rfl) (fun _=>rfl) (QO h3 _) (by rw [Q4]; omega) (by rw [QU]; omega) (by unfold QR; omega) fun v4 h4 g4 lo4=>?_
        rw [Zn i (by omega)]
        refine hs _ _ ⟨v4,_,rfl,(lo3.trans (.push _ _ _ n3)).trans lo4,g4,?_⟩
        rw [List.length_append,hlen,X6,hm]; rfl
    · rintro x h' self ⟨out, l, rfl, lo, g, hlen⟩
      (simp only [↓zA,Qk,Qn,zB,Q5 (Nat.le_refl (ks.length + 1))])
      refine hk _ _ fun k=>?_
      rw [g.row.len,hlen]; rfl
  · rw [he] at hk
    (simp only [↓zA,Qk,Qn,zB])
    exact hk _ _ fun k=>rfl
def Nw (ks : List (List UInt8)) (fr to : Str) : Bool:=eqI (Int.ofNat (parts ks fr to)) (Int.ofNat 1)
theorem Vl {C : Cfg} (h : Yu C = true) : eqI (YJ C.ks) (Int.ofNat 0) = true:=by
  unfold Yu at h
  simp only [Bool.and_eq_true] at h
  exact h.2.1
def f85 : AV→AV→H→(AV→Int→H→Prop)→Prop:=QdO J0 V4 Nu pSpn pMet
theorem t49 {KB : Bool→H→Prop} {C : Cfg} {fr to : Str} (c : CfgIn h C) (hw : h.base ≤ h.next) (hok : Yu C = true) (hk : ∀ h',KB (Nw C.ks fr to) h') : s49G J0 f85 (.agg (QG C)) (ZF fr to) h KB:=by
  have hc:=Vl hok
  unfold s49G
  rw [QJ,Qw,ZF,QJ,Qw]
  rw [QS (v:=C.vs) ((YE _ (Nat.lt_succ_self _)).trans (QO _ _)) rfl,VJ]
  refine t85 ((c.ks.push _).push _) (by rw [Q4,Q4,QU,QU]; omega) hc fun v' h' hlen=>?_
  have e : ∀ k,Q6 v' k = k (parts C.ks fr to):=hlen
  have hk:=hk h'
  unfold Nw at hk
  rw [show eqI (Int.ofNat 0) (Int.ofNat 0) = true from rfl]
  (simp only [↓zA,Qk,Qn,zB,e])
  exact hk
theorem met3_own {ks : List (List UInt8)} (hc : eqI (YJ ks) (Int.ofNat 0) = true) {fr to : Str} (he : emp fr to = false) {i : Nat} (hi : i ≤ ks.length) : XP (frO ks i) (toO ks i) fr to = met (frO ks i) (toO ks i) fr to := by
  obtain ⟨_,hne,had⟩:=Wv hc
  have h1 : emp (frO ks i) (toO ks i) = false := by
    unfold emp
    rcases Nat.lt_or_ge i ks.length with hlt | hge
    · unfold toO
      rw [ZM hlt]
      have : Str.lt (frO ks i) (Str.of ks[i]) = true:=by
        cases i with
        | zero =>
          have h2:=hne 0 hlt
          unfold neB at h2
          show Str.lt (Str.of []) (Str.of ks[0]) = true
          rw [Dj] at h2
          cases hk : ks[0] with
          | nil=>rw [hk] at h2; simp at h2
          | cons a l=>rw [Str.lt_of]; rfl
        | succ j =>
          rw [Vo,ZM (show j < ks.length by omega)]
          exact had (j + 1) j hlt rfl
      rw [this]; simp
    · unfold toO
      rw [Jw hge]
      rfl
  unfold XP
  rw [h1,he]; simp
theorem t90 {KA : AV → H → Prop} {v : AV} {ks : List (List UInt8)} (q : QY h v ks) (hw : h.base ≤ h.next) (hl : ks.length ≤ 15)
    (hk : ∀ v' h' l,Grow spc 33 2 h.next h' v' l→Low h.next h h'→l.length = ks.length + 1→(∀ (i : Nat) (hi : i < l.length),l[i] = (frO ks i,toO ks i))→KA v' h') : QdI J0 v h KA:=by
  unfold QdI
  refine Yx ks.length (fun i x h'=>∃ out l,x = (v,out,AV.str (frO ks i),AV.int .i64 (Int.ofNat i),()) ∧ Low h.next h h' ∧ Grow spc 33 2 h.next h' out l ∧ l.length = i ∧ ∀ (i' : Nat) (hi' : i' < l.length),l[i'] = (frO ks i',toO ks i')) (by omega) ?_ ?_ ⟨_,[],rfl,.refl _ _,.nil _ _ _ _ _,rfl,fun i hi=>absurd hi (Nat.not_lt_zero _)⟩
  · rintro i x h' self hi ⟨out, l, rfl, lo, g, hlen, hc⟩ hs
    have n1:=lo.next
    have b1:=lo.base
    obtain ⟨p,p1,p2⟩:=q.rdS hi
    (simp only [↓zA,Qk,Qn,zB,q.len,Q0 hi,p1,p2 h' _ (fun id hid=>lo.get id hid)])
    refine Q7 rfl ?_
    rw [Qb1,Z0,Qw]
    refine VT (f:=spc) (a:=(frO ks i,Str.of ks[i])) (g.keep (.push h'.next _ _ (Nat.le_refl _)) (Nat.le_refl _)) (fun _=>rfl) (fun _=>rfl) (QO h' _) (by rw [Q4]; omega) (by rw [QU]; omega) (by unfold QR; omega) fun v4 h4 g4 lo4=>?_
    have lo5:=(lo.trans (.push _ _ _ n1)).trans lo4
    rw [p2 h4 _ (fun id hid=>lo5.get id hid),Zn i (by omega)]
    refine hs _ _ ⟨v4,_,?_,lo5,g4,by rw [List.length_append,hlen]; rfl,fun i' hi'=>?_⟩
    · rw [Vo,ZM hi]
    · rw [List.length_append] at hi'
      have hi' : i' < l.length + 1:=hi'
      by_cases h3 : i' < l.length
      · rw [List.getElem_append_left h3]; exact hc i' h3
      · obtain rfl : i' = l.length := by omega
        rw [List.getElem_append_right (Nat.le_refl _)]
        subst hlen
        unfold toO
        rw [ZM hi]; simp
  · rintro x h' self ⟨out, l, rfl, lo, g, hlen, hc⟩
    have n1:=lo.next
    have b1:=lo.base
    (simp only [↓zA,Qk,Qn,zB,q.len,Q5 (Nat.le_refl ks.length)])
    refine Q7 rfl ?_
    rw [Qb1,Z0,Qw]
    refine VT (f:=spc) (a:=(frO ks ks.length,⟨0,0⟩)) (g.keep (.push h'.next _ _ (Nat.le_refl _)) (Nat.le_refl _)) (fun _=>rfl) (fun _=>rfl) (QO h' _) (by rw [Q4]; omega) (by rw [QU]; omega) (by unfold QR; omega) fun v4 h4 g4 lo4=>?_
    have lo5:=(lo.trans (.push _ _ _ n1)).trans lo4
    refine hk v4 h4 _ g4 lo5 (by rw [List.length_append,hlen]; rfl) fun i' hi'=>?_
    rw [List.length_append] at hi'
    have hi' : i' < l.length + 1:=hi'
    by_cases h3 : i' < l.length
    · rw [List.getElem_append_left h3]; exact hc i' h3
    · obtain rfl : i' = l.length := by omega
      have e1 : toO ks l.length = ⟨0,0⟩:=by rw [hlen]; unfold toO; rw [Jw (Nat.le_refl _)]; rfl
      have e2 : frO ks ks.length = frO ks l.length:=by rw [hlen]
      rw [List.getElem_append_right (Nat.le_refl _)]
      simp [e1,e2]
def f90 : AV→H→(AV→H→Prop)→Prop:=QdI J0
theorem t95 {KP : AV→Int→H→Prop} {v : AV} {ks : List (List UInt8)} {fr to : Str} (q : QY h v ks) (hw : h.base ≤ h.next) (hc : eqI (YJ ks) (Int.ofNat 0) = true)
    (hk : ∀ v' h',(∀ k,Q6 v' k = k (parts ks fr to))→KP v' (Int.ofNat 0) h') : QdG J0 V4 f90 QbR v (ZF fr to) h KP:=by
  have hl:=(Wv hc).1
  unfold QdG
  rw [ZF,QJ,Qw]
  refine ⟨ks,q.push _,?_⟩
  (simp only [↓zA,Qk,Qn,zB,hc])
  have q1 : QY (Qh h (.cells false 33 [.str fr,.str to])) v ks:=q.push _
  have g1 : (Qh h (.cells false 33 [.str fr,.str to])).get h.next = .cells false 33 [.str fr,.str to]:=QO h _
  have hw1 : (Qh h (.cells false 33 [.str fr,.str to])).base ≤ (Qh h (.cells false 33 [.str fr,.str to])).next:=by rw [Q4,QU]; omega
  have hn1 : h.next < (Qh h (.cells false 33 [.str fr,.str to])).next:=Nat.lt_succ_self _
  generalize Qh h (.cells false 33 [.str fr,.str to]) = h1 at q1 g1 hw1 hn1
  refine t90 q1 hw1 hl fun va ha al ga loa hal hac=>?_
  have na:=loa.next
  have ba:=loa.base
  have gra:=ga.row
  let cnt : Nat→Nat:=fun i=>cond (emp fr to) 0 (X6 ks fr to i)
  have hcl : ∀ i,cnt i ≤ i:=fun i=>by
    have:=Dc ks fr to i
    show cond (emp fr to) 0 (X6 ks fr to i) ≤ i
    cases emp fr to <;> simp <;> omega
  refine Yx (ks.length + 1) (fun i x h'=>∃ out l,x = (AV.ptr h.next 0,out,va,AV.int .i64 (Int.ofNat i),()) ∧ Low ha.next ha h' ∧ Grow spc 33 2 ha.next h' out l ∧ l.length = cnt i) (by omega) ?_ ?_ ⟨_,[],rfl,.refl _ _,.nil _ _ _ _ _,by show 0 = cond (emp fr to) 0 0; cases emp fr to <;> rfl⟩
  · rintro i x h' self hi ⟨out, l, rfl, lo, g, hlen⟩ hs
    have hcn:=hcl i
    have n1:=lo.next
    have b1:=lo.base
    obtain ⟨p,p1,p2⟩:=RowAt.rd (f:=spc) (fun _=>rfl) gra (i:=i) (by omega)
    (simp only [↓zA,Qk,Qn,zB,gra.len,hal,Q0 hi,Yv,p1,p2 h' _ (fun id hid=>lo.get id hid)])
    rw [QN (l:=[.str fr,.str to]) ((lo.get _ (by omega)).trans ((loa.get _ hn1).trans g1)) rfl,Qw,hac i (by omega)]
    refine ⟨_,_,_,_,rfl,rfl,?_⟩
    dsimp only
    have hstep : cnt (i + 1) = cnt i + cond (XP (frO ks i) (toO ks i) fr to) 1 0:=by
      show cond (emp fr to) 0 (X6 ks fr to (i + 1)) = cond (emp fr to) 0 (X6 ks fr to i) + _
      cases he : emp fr to
      · rw [met3_own hc he (by omega)]; rfl
      · unfold XP; rw [he]; simp
    cases hm : XP (frO ks i) (toO ks i) fr to
    · rw [Qk, QbY]
      rw [QJ,Ux rfl (by omega),Wi]
      rw [Zn i (by omega)]
      refine hs _ _ ⟨out,l,rfl,lo.trans (.push _ _ _ n1),g.keep (.push h'.next _ _ (Nat.le_refl _)) (Nat.le_refl _),?_⟩
      rw [hstep,hm,hlen]; rfl
    · rw [Qk, QbX]
      rw [QJ,Ux rfl (by omega),WR,VJ]
      have lo3 : Low ha.next ha (Qh h' (.cells false 33 [.str (mFr (frO ks i) fr),.str (mTo (toO ks i) to)])):=lo.trans (.push _ _ _ n1)
      have g3 : Grow spc 33 2 ha.next (Qh h' (.cells false 33 [.str (mFr (frO ks i) fr),.str (mTo (toO ks i) to)])) out l:=g.keep (.push h'.next _ _ (Nat.le_refl _)) (Nat.le_refl _)
      generalize Qh h' (.cells false 33 [.str (mFr (frO ks i) fr),.str (mTo (toO ks i) to)]) = h3 at lo3 g3
      have n3:=lo3.next
      have b3:=lo3.base
      refine Q7 rfl ?_
      rw [Qb1,Z0,Qw]
      refine VT (f:=spc) (a:=(mFr (frO ks i) fr,mTo (toO ks i) to)) (g3.keep (.push h3.next _ _ (Nat.le_refl _)) (Nat.le_refl _)) (fun _=>rfl) (fun _=>rfl) (QO h3 _) (by rw [Q4]; omega) (by rw [QU]; omega) (by unfold QR; omega) fun v4 h4 g4 lo4=>?_
      rw [Zn i (by omega)]
      refine hs _ _ ⟨v4,_,rfl,(lo3.trans (.push _ _ _ n3)).trans lo4,g4,?_⟩
      rw [List.length_append,hstep,hm,hlen]; rfl
  · rintro x h' self ⟨out, l, rfl, lo, g, hlen⟩
    (simp only [↓zA,Qk,Qn,zB,gra.len,hal,Q5 (Nat.le_refl (ks.length + 1))])
    refine hk _ _ fun k=>?_
    rw [g.row.len,hlen]; rfl
def f95 : AV→AV→H→(AV→Int→H→Prop)→Prop:=QdG J0 V4 f90 QbR
theorem t57 {KB : Bool→H→Prop} {C : Cfg} {fr to : Str} (c : CfgIn h C) (hw : h.base ≤ h.next) (hok : Yu C = true) (hk : ∀ h',KB (Nw C.ks fr to) h') : s57G J0 f95 (.agg (QG C)) (ZF fr to) h KB:=by
  have hc:=Vl hok
  unfold s57G
  rw [QJ,Qw,ZF,QJ,Qw]
  rw [QS (v:=C.vs) ((YE _ (Nat.lt_succ_self _)).trans (QO _ _)) rfl,VJ]
  refine t95 ((c.ks.push _).push _) (by rw [Q4,Q4,QU,QU]; omega) hc fun v' h' hlen=>?_
  have e : ∀ k,Q6 v' k = k (parts C.ks fr to):=hlen
  have hk:=hk h'
  unfold Nw at hk
  (simp only [↓zA,Qk,Qn,zB,e])
  exact hk
end
end Go.Proofs.YtodlaigjjknpkaaGreatDoor
