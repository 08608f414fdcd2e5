import Derived.Test.YtfgdelkdmdmfgaaDoorWaB
namespace Go.Proofs.YtfgdelkdmdmfgaaDoor
open Go Go.Am
set_option linter.all false
set_option maxRecDepth 100000
def ReQ (b:List UInt8) (x m e:Int):Prop:=(∃ (v:Nat) (tail:List UInt8),v < 18446744073709551616∧b=uv v++tail∧x=Int.ofNat v∧m=Int.ofNat (uv v).length∧e=Int.ofNat 0) ∨
  ((∀ (v:Nat) (tail:List UInt8),v < 9223372036854775808→b=uv v++tail→False)∧x=Int.ofNat 0∧m=Int.ofNat 0∧e=Int.ofNat 5)
def SmQ (b:List UInt8) (mo:Nat) (x m e:Int):Prop:=(∃ (v:Nat) (tail:List UInt8),v≤mo∧b=uv v++tail∧x=Int.ofNat v∧m=Int.ofNat (uv v).length∧e=Int.ofNat 0) ∨
  ((∀ (v:Nat) (tail:List UInt8),v≤mo→b=uv v++tail→False)∧x=Int.ofNat 0∧m=Int.ofNat 0∧e=Int.ofNat 5)
section
variable {KR:Int→Int→Int→H→Prop}
theorem t72 {h : H} {a : AV} {b : List UInt8} (r : SlB h a b) (hl : b.length ≤ 140737488351232) (hk : ∀ x m e, ReQ b x m e → KR x m e h) : Gs J0 a h KR := by
  unfold Gs
  refine NE (fun _ d' h'=>d'=[]∧h'=h∧∀ v tail,v < 9223372036854775808→b=uv v++tail→False) (fun j hj=>?_) ?_
  rotate_left
  · rintro _ d' h' ⟨rfl, rfl, hn⟩
    exact hk _ _ _ (.inr ⟨hn,rfl,rfl,rfl⟩)
  refine W0 (fun c w d h'=>∃ i xv,w=(a,.int .u64 (Int.ofNat xv),.int .i64 (Int.ofNat i),())∧d=[]∧h'=h∧i≤9∧i≤b.length∧c=10 - i∧xv < 128 ^ i∧(∀ y,1≤y→uv (xv+128 ^ i * y)=b.take i++uv y) ∧
      ∀ v tail,v < 9223372036854775808→b=uv v++tail→xv=v % 128 ^ i∧(i=0∨128 ^ i≤v)∧b.drop i=uv (v / 128 ^ i)++tail∧(uv v).length=i+(uv (v / 128 ^ i)).length) ?_ (n:=10) (by unfold fuel;omega)
    ⟨0,0,rfl,rfl,rfl,Nat.zero_le _,Nat.zero_le _,rfl,by decide,fun y _=>by simp,fun v tail h1 h2=>⟨by simp [Nat.mod_one],.inl rfl,by simpa using h2,by simp⟩⟩
  rintro c self w d h' ⟨i,xv,rfl,rfl,rfl,hi10,hib,rfl,hx,hup,hfit⟩ hs
  dsimp only
  rw [r.len,Qa,Qg]
  by_cases hc:i < b.length
  rotate_left
  · rw [Za (by omega)]
    simp only [↓Qq,↓QO,↓Qr,↓QS,↓QF,↓Qm,↓Qa]
    refine hj _ _ _ ⟨rfl,rfl,fun v tail h1 h2=>?_⟩
    obtain ⟨_,_,q,_⟩:=hfit v tail h1 h2
    rw [List.drop_of_length_le (by omega)] at q
    have:=congrArg List.length q
    have hne:=uv_ne (v / 128 ^ i)
    cases hu:uv (v / 128 ^ i) with
    | nil=>exact hne hu
    | cons _ _=>rw [hu] at this;simp at this
  rw [ZA hc]
  simp only [↓Qq,↓QO,↓Qr,↓QS,↓QF,↓Qm,↓Qa]
  rw [Qg]
  have h10:i < 10:=by omega
  rw [ZA h10]
  obtain ⟨p,p1,p2⟩:=r.at hc
  have hd:=drop_cons hc
  simp only [↓Qq,↓QO,↓Qr,↓QS,↓QF,↓Qm,↓Qa,↓p1,↓p2 h' _ (fun _ _=>rfl),↓Qg]
  have brk:((eqI (Int.ofNat i) (Int.ofNat 9) && ltI (Int.ofNat 1) (bI b[i])) || (ltI (Int.ofNat 0) (Int.ofNat i) && eqI (bI b[i]) (Int.ofNat 0)))=true→j () [] h':=fun hcond=>by
    refine hj _ _ _ ⟨rfl,rfl,fun v tail h1 h2=>?_⟩
    obtain ⟨_,q1,q2,_⟩:=hfit v tail h1 h2
    rw [Bool.or_eq_true,Bool.and_eq_true,Bool.and_eq_true] at hcond
    rcases hcond with ⟨c1,_⟩ | ⟨c1,c2⟩
    · have h9 : i = 9 := by have := Zp.1 c1; have h2 : (i : Int) = 9 := this; omega
      have:=pow128 i (by omega)
      omega
    · have hi0 : 0 < i := XA c1
      rw [eqI_b0] at c2
      have c2:=of_decide_eq_true c2
      rw [hd,c2] at q2
      have hv1:1≤v / 128 ^ i:=by
        rcases q1 with q1 | q1
        · omega
        · exact (Nat.one_le_div_iff (Nat.pow_pos (by decide))).2 q1
      obtain ⟨u1,u2⟩:=QcH q2
      by_cases hv:v / 128 ^ i < 128
      · have:=(u1 hv).1;simp at this;omega
      · have:=(u2 (by omega)).1;simp at this
  have e7:Qd .i64 (Int.mul (Int.ofNat 7) (Int.ofNat i))=Int.ofNat (7 * i):=Zi (kk:=.i64) (m:=7 * i) (by show 7 * i < 9223372036854775808;omega)
  have hcl:=(b[i]).toNat_lt
  have eland:Qd .u64 (ND .u8 (bI b[i]) (Int.ofNat 128))=Int.ofNat ((b[i]).toNat % 128):=by
    have:=landn128 (b[i]).toNat hcl
    rw [show bI b[i]=Int.ofNat (b[i]).toNat from rfl,this]
    exact Zi (kk:=.u64) (by show (b[i]).toNat % 128 < 18446744073709551616;omega)
  have cont:((eqI (Int.ofNat i) (Int.ofNat 9) && ltI (Int.ofNat 1) (bI b[i])) || (ltI (Int.ofNat 0) (Int.ofNat i) && eqI (bI b[i]) (Int.ofNat 0)))=false →
      fI (ND .u8 (bI b[i]) (Int.ofNat 128)) fun x59=>fI (Qd .u64 x59) fun x60=>fI (Qd .i64 (Int.mul (Int.ofNat 7) (Int.ofNat i))) fun x62=>YU (AV.int .i64 x62) fun n63=>fI (VQ .u64 x60 n63) fun x64=>fI (Uv .u64 (Int.ofNat xv) x64) fun x66=>
        fI (Qd .i64 (Int.add (Int.ofNat i) (Int.ofNat 1))) fun x68=>br (ltI (bI b[i]) (Int.ofNat 128)) (Qu (gam J0 []) [] h' fun h70=>KR x66 x68 (Int.ofNat 0) h70) (self (a,(AV.int .u64 x66),(AV.int .i64 x68),()) [] h'):=fun hcond=>by
    simp only [Qo]
    rw [eland,e7,X5,add_one i (by omega)]
    have hc9:i=9→(b[i]).toNat≤1:=fun h=>by
      subst h
      rw [Bool.or_eq_false_iff] at hcond
      have:=hcond.1
      rw [show eqI (Int.ofNat 9) (Int.ofNat 9)=true from rfl,Bool.true_and] at this
      exact XK this
    have hc0:0 < i→(b[i]).toNat≠0:=fun h0 hz=>by
      rw [Bool.or_eq_false_iff] at hcond
      have:=hcond.2
      rw [ZA h0,Bool.true_and,show bI b[i]=Int.ofNat (b[i]).toNat from rfl,hz] at this
      exact absurd this (by decide)
    have hpow:(128:Nat) ^ 9=9223372036854775808:=by decide
    have hpi:128 ^ i≤128 ^ 9:=Nat.pow_le_pow_right (by decide) hi10
    have hsm:(b[i]).toNat % 128 * 128 ^ i+xv < 18446744073709551616:=by
      rcases Nat.lt_or_ge i 9 with h9 | h9
      · have h8 : 128 ^ (i + 1) ≤ 128 ^ 9 := Nat.pow_le_pow_right (by decide) h9
        rw [Nat.pow_succ] at h8
        have:(b[i]).toNat % 128 * 128 ^ i≤127 * 128 ^ i:=Nat.mul_le_mul_right _ (by omega)
        omega
      · obtain rfl : i = 9 := by omega
        have:=hc9 rfl
        have:(b[9]).toNat % 128 * 128 ^ 9≤1 * 128 ^ 9:=Nat.mul_le_mul_right _ (by omega)
        omega
    rw [or_pow hi10 hx hsm]
    have hfit2:∀ v tail,v < 9223372036854775808→b=uv v++tail→(v / 128 ^ i < 128→(b[i]).toNat=v / 128 ^ i∧b.drop (i+1)=tail)∧(128≤v / 128 ^ i→(b[i]).toNat=v / 128 ^ i % 128+128∧b.drop (i+1)=uv (v / 128 ^ i / 128)++tail)∧(uv v).length=i+(uv (v / 128 ^ i)).length∧xv=v % 128 ^ i:=fun v tail h1 h2=>by
      obtain ⟨q0,q1,q2,q3⟩:=hfit v tail h1 h2
      rw [hd] at q2
      obtain ⟨u1,u2⟩:=QcH q2
      exact ⟨u1,u2,q3,q0⟩
    refine QP (fun h128=>?_) (fun h128=>?_)
    · have h128 : (b[i]).toNat < 128 := XA h128
      rw [Nat.mod_eq_of_lt h128] at hsm ⊢
      refine hk _ _ _ (.inl ⟨(b[i]).toNat * 128 ^ i+xv,b.drop (i+1),hsm,?_,rfl,?_,rfl⟩)
      · rcases Nat.eq_zero_or_pos i with h0 | h0
        · subst h0
          have hx0:xv=0:=by simpa using hx
          subst hx0
          have e:(b[0]).toNat * 128 ^ 0+0=(b[0]).toNat:=by simp
          rw [e,Yb h128]
          have:=hd
          rw [List.drop_zero] at this
          refine this.trans ?_;simp
        · have hne := hc0 h0
          have e:(b[i]).toNat * 128 ^ i+xv=xv+128 ^ i * (b[i]).toNat:=by rw [Nat.mul_comm,Nat.add_comm]
          rw [e,hup _ (by omega),Yb h128,List.append_assoc]
          have e2:[UInt8.ofNat (b[i]).toNat]++b.drop (i+1)=b.drop i:=by rw [hd];simp
          rw [e2,List.take_append_drop]
      · rcases Nat.eq_zero_or_pos i with h0 | h0
        · subst h0
          have hx0:xv=0:=by simpa using hx
          subst hx0
          have e:(b[0]).toNat * 128 ^ 0+0=(b[0]).toNat:=by simp
          rw [e,QcG h128]
        · have hne := hc0 h0
          have e:(b[i]).toNat * 128 ^ i+xv=xv+128 ^ i * (b[i]).toNat:=by rw [Nat.mul_comm,Nat.add_comm]
          rw [e,hup _ (by omega),List.length_append,List.length_take,QcG h128,Nat.min_eq_left hib]
    · have h128 : 128 ≤ (b[i]).toNat := XK h128
      have h9:i < 9:=by
        rcases Nat.lt_or_ge i 9 with h | h
        · exact h
        · have:=hc9 (by omega);omega
      have hps:128 ^ (i+1)=128 ^ i * 128:=Nat.pow_succ ..
      refine hs (10 - (i+1)) _ _ _ (by omega) ⟨i+1,(b[i]).toNat % 128 * 128 ^ i+xv,rfl,rfl,rfl,by omega,hc,rfl,?_,fun y hy=>?_,fun v tail h1 h2=>?_⟩
      · have : (b[i]).toNat % 128 * 128 ^ i ≤ 127 * 128 ^ i := Nat.mul_le_mul_right _ (by omega)
        rw [hps];omega
      · have e : (b[i]).toNat % 128 * 128 ^ i + xv + 128 ^ (i + 1) * y = xv + 128 ^ i * ((b[i]).toNat % 128 + 128 * y) := by
          rw [hps,Nat.mul_add,Nat.mul_comm ((b[i]).toNat % 128),Nat.mul_assoc];omega
        have hb1:UInt8.ofNat ((b[i]).toNat % 128+128)=b[i]:=by
          apply UInt8.toNat_inj.1
          rw [WD (by omega)];omega
        rw [e,hup _ (by omega),uv_up _ y (by omega) hy,take_snoc hc,hb1,List.append_assoc]
        rfl
      · obtain ⟨q1, q2, q3, q0⟩ := hfit2 v tail h1 h2
        have hv:128≤v / 128 ^ i:=by
          by_cases hv:v / 128 ^ i < 128
          · have:=(q1 hv).1;omega
          · omega
        have e:v / 128 ^ i / 128=v / 128 ^ (i+1):=by rw [Nat.div_div_eq_div_mul,← Nat.pow_succ]
        refine ⟨?_,.inr ?_,by rw [← e];exact (q2 hv).2,?_⟩
        · have hp := Nat.mod_pow_succ (x := v) (b := 128) (k := i)
          rw [hp,q0,(q2 hv).1,Nat.mul_comm]
          have:(v / 128 ^ i % 128+128) % 128=v / 128 ^ i % 128:=by omega
          rw [this,Nat.add_comm]
        · rw [Nat.pow_succ]
          have:=(Nat.le_div_iff_mul_le (Nat.pow_pos (by decide:0 < 128))).1 hv
          rw [Nat.mul_comm];exact this
        · rw [q3,uv_len2 hv,← e];omega
  cases B1:eqI (Int.ofNat i) (Int.ofNat 9) <;> cases B2:ltI (Int.ofNat 1) (bI b[i]) <;> cases B3:ltI (Int.ofNat 0) (Int.ofNat i) <;> cases B4:eqI (bI b[i]) (Int.ofNat 0) <;>
    simp only [↓Qq,↓QO,↓Qr,↓QS,↓QF,↓Qm,↓Qa,↓Zc,↓JG,B1,B2,B3,B4] <;>
    first | exact brk (by rw [B1,B2,B3,B4];rfl) | exact cont (by rw [B1,B2,B3,B4];rfl)
theorem t51 {h:H} {a:AV} {b:List UInt8} {mo:Nat} (r:SlB h a b) (hl:b.length≤140737488351232) (hmo:mo < 9223372036854775808) (hk:∀ x m e,SmQ b mo x m e→KR x m e h):G8 J0 (Gs J0) a (Int.ofNat mo) h KR:=by
  unfold G8
  refine t72 r hl fun x m e hR=>?_
  have c0:ltI (Int.ofNat mo) (Int.ofNat 0)=false:=Za (Nat.zero_le _)
  have cm:Qd .u64 (Int.ofNat mo)=Int.ofNat mo:=Zi (kk:=.u64) (by show mo < 18446744073709551616;omega)
  have z0:eqI (Int.ofNat 0) (Int.ofNat 0)=true:=rfl
  have z5:eqI (Int.ofNat 5) (Int.ofNat 0)=false:=rfl
  rcases hR with ⟨v,tail,hv,rfl,rfl,rfl,rfl⟩ | ⟨hn,rfl,rfl,rfl⟩
  · by_cases hmx : v ≤ mo
    · have c1 : ltI (Int.ofNat mo) (Int.ofNat v) = false := Za hmx
      have cx:Qd .i64 (Int.ofNat v)=Int.ofNat v:=Zi (kk:=.i64) (by show v < 9223372036854775808;omega)
      simp only [↓Qq,↓QO,↓Qr,↓QS,↓QF,↓Qm,↓Qa,↓Qg,↓Qo,↓Bool.not_true,c0,cm,c1,cx,z0]
      exact hk _ _ _ (.inl ⟨v,tail,hmx,rfl,rfl,rfl,rfl⟩)
    · have c1 : ltI (Int.ofNat mo) (Int.ofNat v) = true := ZA (by omega)
      simp only [↓Qq,↓QO,↓Qr,↓QS,↓QF,↓Qm,↓Qa,↓Qg,↓Qo,↓Bool.not_true,c0,cm,c1,z0]
      exact hk _ _ _ (.inr ⟨fun v' tail' h1 h2=>by obtain ⟨rfl,_⟩:=Qd3 h2;exact hmx h1,rfl,rfl,rfl⟩)
  · simp only [↓Qq, ↓QO, ↓Qr, ↓QS, ↓QF, ↓Qm, ↓Qa, ↓Qg, ↓Qo, ↓Bool.not_false, c0, cm, z5]
    exact hk _ _ _ (.inr ⟨fun v' tail' h1 h2=>hn v' tail' (by omega) h2,rfl,rfl,rfl⟩)
end
end Go.Proofs.YtfgdelkdmdmfgaaDoor
namespace Go.Proofs.YtfgdelkdmdmfgaaDoor
open Go Go.Am
set_option linter.all false
set_option maxRecDepth 100000
theorem sub_nat {a b:Nat} (h:b≤a):Int.sub (Int.ofNat a) (Int.ofNat b)=Int.ofNat (a - b):=by
  show (a:Int) - (b:Int)=((a - b:Nat):Int);omega
section
variable {KR:Int→Int→Int→H→Prop}
end
end Go.Proofs.YtfgdelkdmdmfgaaDoor
