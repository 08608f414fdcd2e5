import Derived.Test.YtodlaigjjknpkaaGreatDoorSvF
noncomputable section
namespace Go.Proofs.YtodlaigjjknpkaaGreatDoor
open Go Go.Am
set_option linter.all false
set_option maxRecDepth 100000
def U0 (vh : AV) (per bits top most : Int) : List AV:=[vh,.int .i64 per,.int .i64 bits,.int .i64 top,.int .i64 most]
def hsB (hs : List Int) : Bool:=hs.all heB
def KE (hs : List Int) (per bits top most : Int) : Bool:=hsB hs && (!(ltI per (Int.ofNat 1)) && (!(ltI (Int.ofNat 64) per) && (!(ltI bits (Int.ofNat 1)) && (!(ltI (Int.ofNat 16) bits) && (!(ltI top (Int.ofNat 1)) && (!(ltI (Int.ofNat 64) top) && (!(ltI most (Int.ofNat 1)) && !(ltI (Int.ofNat 65536) most))))))))
def pNew : AV→H→(AV→Int→H→Prop)→Prop:=fun v h k=>∃ l,Vb h v l ∧ l.length * 8 ≤ QR ∧ k .junk (bad (hsB l)) h
def Qdn : AV→H→(Int→H→Prop)→Prop:=fun a h k=>∃ vh hs per bits top most,a = .agg (U0 vh per bits top most) ∧ Vb h vh hs ∧ hs.length * 8 ≤ QR ∧ k (bad (KE hs per bits top most)) h
def JH (a b c : Int) : Bool:=!(ltI a b) && !(ltI c a)
def pCnt : Int→Int→Int→H→(Bool→H→Prop)→Prop:=fun a b c h k=>fB (JH a b c) fun r=>k r h
section
variable {K : Int→Prop} {KB : Bool→Prop} {KA : AV→Int→H→Prop} {h : H} {v : AV}
theorem t54 {l : List Int} (q : Vb h v l) (hl : l.length * 8 ≤ QR) (hk : ∀ a h', KA a (bad (hsB l)) h') : s54G J0 v h KA := by
  unfold s54G
  have hl2 : l.length ≤ 100000000000000:=by unfold QR at hl; omega
  rw [q.len]
  refine Uo (ks:=l) heB (fun i x h'=>x = (v,v,AV.int .i64 (Int.ofNat l.length),AV.int .i64 (Int.ofNat i),()) ∧ h' = h) (by omega) ?_ ?_ ⟨rfl,rfl⟩
  · rintro i hi x h' self ⟨rfl, rfl⟩ s1 s2
    obtain ⟨p,p1,p2⟩:=q.rdI hi
    simp only [QQ,Qk,Qn,Q0 hi,WR,p1,p2 h' _ (fun id hid=>rfl)]
    cases h1 : ltI l[i] (Int.ofNat 1)
    · (simp only [↓zA, Qk, Qn, zB])
      cases h2 : ltI (Int.ofNat 12) l[i]
      · (simp only [↓zA, Qk, Qn, zB])
        rw [Zn i (by omega)]
        exact s1 (by unfold heB; rw [h1,h2]; rfl) _ _ ⟨rfl,rfl⟩
      · (simp only [↓zA, Qk, Qn, zB])
        have:=hk .nilp h'
        rw [hsB,UY (s2 (by unfold heB; rw [h1,h2]; rfl))] at this; exact this
    · (simp only [↓zA, Qk, Qn, zB])
      have:=hk .nilp h'
      rw [hsB,UY (s2 (by unfold heB; rw [h1]; rfl))] at this; exact this
  · rintro x h' self ⟨rfl, rfl⟩ hp
    have hk' : ∀ a h',KA a (Int.ofNat 0) h':=fun a h'=>by have:=hk a h'; rw [hsB,JK hp] at this; exact this
    simp only [QQ,Qk,Qn,Q5 (Nat.le_refl l.length),Wi]
    unfold apC Qdg
    rcases q with ⟨rfl,rfl⟩ | ⟨id,c,ex,m,t,rfl,q2,q3⟩
    · simp only [UN]
      rw [show Nat.beq 0 0 = true from rfl,WR]
      refine Q7 rfl ?_
      rw [Qw]
      exact hk' _ _
    · simp only [Yl, q2, YL, UN]
      have e : Z1 (Nat.mul l.length 1) (Yg 0 (l.flatMap KG)) = some (l.flatMap KG):=by
        rw [WG,List.drop_zero,show Nat.mul l.length 1 = l.length from Nat.mul_one _,VG (by rw [YI (f:=KG) (es:=1) (fun _=>rfl),Nat.mul_one]; exact Nat.le_refl _)]
        rw [List.take_of_length_le (by rw [YI (f:=KG) (es:=1) (fun _=>rfl),Nat.mul_one]; exact Nat.le_refl _)]
      rw [e,Z0]
      cases hn : Nat.beq l.length 0
      · refine Q7 ((Qv _ _).2 hl) ?_
        rw [Qw]
        refine Q7 rfl ?_
        rw [Qw]
        exact hk' _ _
      · refine Q7 rfl ?_
        rw [Qw]
        exact hk' _ _
theorem t25 {b0 b1 b2 b3 b4 b5 : Blk} {vh : AV} {hs : List Int} {per bits top most : Int} (q : Vb (HX b0 b1 b2 b3 b4 b5) vh hs) (hl : hs.length * 8 ≤ QR) (hk : ∀ r,r = bad (KE hs per bits top most)→K r) :
    s25G J0 pNew (.agg (U0 vh per bits top most)) (HX b0 b1 b2 b3 b4 b5) fun r _=>K r:=by
  conv=>whnf
  refine ⟨hs,q.low (n:=6) (by (((try (simp only [Qh,QL,HX,Nat.succ_eq_add_one,Nat.reduceAdd])); refine ⟨rfl,Nat.le_of_ble_eq_true rfl,fun id hid=>?_⟩; match id,hid with | 0,_=>rfl | 1,_=>rfl | 2,_=>rfl | 3,_=>rfl | 4,_=>rfl | 5,_=>rfl | n + 6,hn=>exact absurd hn (by omega)))) (by exact Nat.le_refl 6),hl,?_⟩
  (repeat' ((conv=>whnf); first | exact hk _ (by simp_all [KE,Zu,Zv,QA,QT]) | refine ⟨_,_,_,rfl,?_⟩ | refine ⟨_,_,rfl,?_⟩ | (rw [ZD]; generalize hnb : nob _ _ = nb; cases nb) | refine QC (fun _=>?_) (fun _=>?_)))
theorem t23 {a b c : Int} (hk : ∀ r,r = JH a b c→KB r) : s23G J0 a b c H0 fun r _=>KB r:=by (repeat' ((conv=>whnf); first | exact hk _ (by simp_all [JH,Zu,Zv,QA,QT]) | refine ⟨_,_,_,rfl,?_⟩ | refine ⟨_,_,rfl,?_⟩ | (rw [ZD]; generalize hnb : nob _ _ = nb; cases nb) | refine QC (fun _=>?_) (fun _=>?_)))
theorem t27 {b0 b1 b2 b3 b4 b5 : Blk} {vh : AV} {hs : List Int} {per bits top most : Int} (q : Vb (HX b0 b1 b2 b3 b4 b5) vh hs) (hl : hs.length * 8 ≤ QR) (hk : ∀ r, r = bad (KE hs per bits top most) → K r) :
    s27G J0 (.agg (U0 vh per bits top most)) (HX b0 b1 b2 b3 b4 b5) fun r _=>K r:=by
  have hl2 : hs.length ≤ 100000000000000:=by unfold QR at hl; omega
  unfold s27G
  rw [QJ,Qw]
  have g : (Qh (HX b0 b1 b2 b3 b4 b5) (.cells false 25 (U0 vh per bits top most))).get 6 = .cells false 25 (U0 vh per bits top most):=rfl
  have q1 : Vb (Qh (HX b0 b1 b2 b3 b4 b5) (.cells false 25 (U0 vh per bits top most))) vh hs:=q.push _
  refine Uo (ks:=hs) heB (fun i x h'=>x = (AV.ptr 6 0,AV.int .i64 (Int.ofNat i),()) ∧ h' = Qh (HX b0 b1 b2 b3 b4 b5) (.cells false 25 (U0 vh per bits top most))) (by omega) ?_ ?_ ⟨rfl,rfl⟩
  · rintro i hi x h' self ⟨rfl, rfl⟩ s1 s2
    obtain ⟨p,p1,p2⟩:=q1.rdI hi
    simp only [QW,QS (o:=Nat.add 0 0) (v:=vh) g rfl,q1.len,QQ,Qk,Qn,Q0 hi,WR,p1,p2 _ _ (fun id hid=>rfl)]
    cases h1 : ltI hs[i] (Int.ofNat 1)
    · (simp only [↓zA, Qk, Qn, zB, QW, QS (o := Nat.add 0 0) (v := vh) g rfl, p1, p2 _ _ (fun id hid => rfl)])
      cases h2 : ltI (Int.ofNat 12) hs[i]
      · (simp only [↓zA, Qk, Qn, zB])
        rw [Zn i (by omega)]
        exact s1 (by unfold heB; rw [h1,h2]; rfl) _ _ ⟨rfl,rfl⟩
      · (simp only [↓zA, Qk, Qn, zB])
        refine hk _ ?_
        unfold KE
        rw [hsB,UY (s2 (by unfold heB; rw [h1,h2]; rfl))]; rfl
    · (simp only [↓zA, Qk, Qn, zB])
      refine hk _ ?_
      unfold KE
      rw [hsB,UY (s2 (by unfold heB; rw [h1]; rfl))]; rfl
  · rintro x h' self ⟨rfl, rfl⟩ hp
    have hp : hsB hs = true:=JK hp
    simp only [QW,QS (o:=Nat.add 0 0) (v:=vh) g rfl,q1.len,QQ,Q5 (Nat.le_refl hs.length)]
    clear q1 g q
    (repeat' ((conv=>whnf); first | exact hk _ (by simp_all [KE,hp,Zu,Zv,QA,QT]) | refine ⟨_,_,_,rfl,?_⟩ | refine ⟨_,_,rfl,?_⟩ | (rw [ZD]; generalize hnb : nob _ _ = nb; cases nb) | refine QC (fun _=>?_) (fun _=>?_)))
end
end Go.Proofs.YtodlaigjjknpkaaGreatDoor
namespace Go.Proofs.YtodlaigjjknpkaaGreatDoor
open Go Go.Am
set_option linter.all false
set_option maxRecDepth 100000
structure Cfg where
  nodes : Int
  off : Int
  exp : Int
  lease : Int
  per : Int
  bits : Int
  top : Int
  most : Int
  vs : AV
  vh : AV
  ks : List (List UInt8)
  hs : List Int
def QG (C : Cfg) : List AV:=[.int .i64 C.nodes,C.vs,.int .i64 C.off,.int .i64 C.exp,.int .i64 C.lease,C.vh,.int .i64 C.per,.int .i64 C.bits,.int .i64 C.top,.int .i64 C.most]
structure CfgIn (h : H) (C : Cfg) : Prop where
  ks : QY h C.vs C.ks
  hs : Vb h C.vh C.hs
  hl : C.hs.length * 8 ≤ QR
theorem CfgIn.low {h h' : H} {C : Cfg} (c : CfgIn h C) {n : Nat} (lo : Low n h h') (hn : h.next ≤ n) : CfgIn h' C:=⟨c.ks.low lo hn,c.hs.low lo hn,c.hl⟩
def Yu (C : Cfg) : Bool:=JH C.nodes (Int.ofNat 1) (Int.ofNat 7) && (eqI (YJ C.ks) (Int.ofNat 0) && (JH C.off (Int.ofNat 0) (Int.ofNat 1073741824) && (JH C.exp (Int.ofNat 0) (Int.ofNat 1073741824) && (JH C.lease (Int.ofNat 1) (Int.ofNat 1073741824) && KE C.hs C.per C.bits C.top C.most))))
def KU : AV→H→(Int→H→Prop)→Prop:=fun a h k=>∃ C,a = .agg (QG C) ∧ CfgIn h C ∧ k (bad (Yu C)) h
section
variable {K : Int→Prop} {KB : Bool→Prop} {b0 b1 b2 b3 b4 b5 : Blk}
theorem t8 {C : Cfg} (c : CfgIn (HX b0 b1 b2 b3 b4 b5) C) (hk : ∀ r,r = bad (Yu C)→K r) : s8G J0 pCnt V4 Qdn (.agg (QG C)) (HX b0 b1 b2 b3 b4 b5) fun r _=>K r:=by
  (repeat' ((conv=>whnf); (first | exact hk _ (by simp_all [Yu,Zu,Zv,QA,QT]) | refine ⟨_,(CfgIn.ks c).low (n:=6) (by (((try (simp only [Qh,QL,HX,Nat.succ_eq_add_one,Nat.reduceAdd])); refine ⟨rfl,Nat.le_of_ble_eq_true rfl,fun id hid=>?_⟩; match id,hid with | 0,_=>rfl | 1,_=>rfl | 2,_=>rfl | 3,_=>rfl | 4,_=>rfl | 5,_=>rfl | n + 6,hn=>exact absurd hn (by omega)))) (Nat.le_refl 6),?_⟩ | refine ⟨_,_,_,_,_,_,rfl,(CfgIn.hs c).low (n:=6) (by (((try (simp only [Qh,QL,HX,Nat.succ_eq_add_one,Nat.reduceAdd])); refine ⟨rfl,Nat.le_of_ble_eq_true rfl,fun id hid=>?_⟩; match id,hid with | 0,_=>rfl | 1,_=>rfl | 2,_=>rfl | 3,_=>rfl | 4,_=>rfl | 5,_=>rfl | n + 6,hn=>exact absurd hn (by omega)))) (Nat.le_refl 6),CfgIn.hl c,?_⟩ | refine QC (fun _=>?_) (fun _=>?_))))
theorem t9 {C : Cfg} (c : CfgIn (HX b0 b1 b2 b3 b4 b5) C) (hk : ∀ r,r = bad (Yu C)→K r) : s9G J0 V4 Qdn (.agg (QG C)) (HX b0 b1 b2 b3 b4 b5) fun r _=>K r:=by
  (repeat' ((conv=>whnf); (first | exact hk _ (by simp_all [Yu,JH,Zu,Zv,QA,QT]) | refine ⟨_,(CfgIn.ks c).low (n:=6) (by (((try (simp only [Qh,QL,HX,Nat.succ_eq_add_one,Nat.reduceAdd])); refine ⟨rfl,Nat.le_of_ble_eq_true rfl,fun id hid=>?_⟩; match id,hid with | 0,_=>rfl | 1,_=>rfl | 2,_=>rfl | 3,_=>rfl | 4,_=>rfl | 5,_=>rfl | n + 6,hn=>exact absurd hn (by omega)))) (Nat.le_refl 6),?_⟩ | refine ⟨_,_,_,_,_,_,rfl,(CfgIn.hs c).low (n:=6) (by (((try (simp only [Qh,QL,HX,Nat.succ_eq_add_one,Nat.reduceAdd])); refine ⟨rfl,Nat.le_of_ble_eq_true rfl,fun id hid=>?_⟩; match id,hid with | 0,_=>rfl | 1,_=>rfl | 2,_=>rfl | 3,_=>rfl | 4,_=>rfl | 5,_=>rfl | n + 6,hn=>exact absurd hn (by omega)))) (Nat.le_refl 6),CfgIn.hl c,?_⟩ | refine QC (fun _=>?_) (fun _=>?_))))
end
end Go.Proofs.YtodlaigjjknpkaaGreatDoor
