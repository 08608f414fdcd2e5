import Derived.Test.YtfgdelkdmdmfgaaDoorWaN
import Derived.Test.YtfgdelkdmdmfgaaDoorWlRd
import Derived.Test.YtfgdelkdmdmfgaaDoorWaJ
noncomputable section
namespace Go.Proofs.YtfgdelkdmdmfgaaDoor
open Go Go.Am
set_option linter.all false
set_option maxRecDepth 100000
def pRep:Fun:=fun xs h k=>∃ m,m < 6∧xs=[.str ⟨1,48⟩,.int .i64 (Int.ofNat m)]∧k (.str (Str.of (List.replicate m 48))) h
theorem pRep_ok:Qt Tryd.prog 42 pRep:=QeU.alone.imp fun xs h k e0=>by
  obtain ⟨m,hm,rfl,e⟩:=e0
  rw [← zero_is m hm] at e
  have hu:AV.underL H0.next [AV.str ⟨1,48⟩,.int .i64 (Int.ofNat m)]:=by simp [AV.underL,AV.under]
  have key:∀ (K:AV→Prop),K (.str (X8 m))=g42 [.str ⟨1,48⟩,.int .i64 (Int.ofNat m)] H0 fun r _=>K r:=fun K=>by
    have hm':m=0∨m=1∨m=2∨m=3∨m=4∨m=5:=by omega
    rcases hm' with rfl | rfl | rfl | rfl | rfl | rfl
    · exact rep0 K
    · exact rep1 K
    · exact rep2 K
    · exact rep3 K
    · exact rep4 K
    · exact rep5 K
  refine ⟨H0,Sub.empty h,AllRows.empty,hu,Eq.mp (key fun r=>AV.under H0.next r∧k r h) ⟨by simp only [AV.under],e⟩⟩
theorem wal4:(⟨4,2002873389⟩:Str)=Str.of [119,97,108,45]:=by decide +kernel
def QT (n:Nat):List UInt8:=[119,97,108,45]++K5 6 n
theorem dLen_small {n:Nat} (h:n < 100):1≤Jh n∧Jh n≤2∧n < 10 ^ Jh n:=by
  unfold Jh
  by_cases h1:n < 10
  · rw [if_pos h1];exact ⟨by decide,by decide,by show n < 10;omega⟩
  · rw [if_neg h1,if_pos h];exact ⟨by decide,by decide,by show n < 100;omega⟩
section
variable {KN:Str→Int→H→Prop} {KS:Str→H→Prop} {c80:Int→H→(Int→H→Prop)→Prop} {c81:AV→Int→H→(H→Prop)→Prop}
theorem t71 {n:Nat} {h:H} (hn:n < 100) (hk:KS (Str.of (K5 (Jh n) n)) h):QdN J0 (Qca J0) c80 c81 (Int.ofNat n) (Int.ofNat 10) h KS:=by
  unfold QdN
  have e1:eqI (Int.ofNat 10) (Int.ofNat 10)=true:=rfl
  have e2:ltI (Int.ofNat n) (Int.ofNat 0)=false:=Za (Nat.zero_le _)
  have e3:ltI (Int.ofNat n) (Int.ofNat 100)=true:=ZA hn
  simp only [↓Qg,e1,e2,↓QO,↓Qr,↓Bool.not_false,↓Qq,↓Qa,e3,↓QS,↓Qm]
  exact t87 hn hk
theorem t26 {n:Nat} {h:H} (h1:1≤n) (h2:n < 100) (hk:KN (Str.of (QT n)) (Int.ofNat 0) h):Qeg J0 (Qec J0 (Qeb J0 (QdN J0 (Qca J0) c80 c81))) pRep (Int.ofNat n) h KN:=by
  unfold Qeg
  have z1:ltI (Int.ofNat n) (Int.ofNat 1)=false:=Za h1
  have z2:ltI (Int.ofNat 999999) (Int.ofNat n)=false:=Za (by omega)
  simp only [↓Qg,z1,z2,↓Qq,↓QO,↓Qr,↓QS,↓QF,↓Qm,↓Qa]
  unfold Qec Qeb
  refine t71 h2 ?_
  obtain ⟨d1,d2,d3⟩:=dLen_small h2
  have e0:=QbS (Jh n) n
  rw [Qo,Ws,e0,Kt _ _ (by omega),Yg _ (by omega)]
  refine ⟨6 - Jh n,by omega,rfl,?_⟩
  show asS _ _
  rw [Wk,wal4]
  refine Qp (by rw [Ws,Qk,List.length_replicate];show 4+(6 - Jh n)≤_;omega) ?_
  rw [Vt,Str.cat_of]
  refine Qp (by rw [Ws,Qk,List.length_append,List.length_replicate];show 4+(6 - Jh n)+Jh n≤_;omega) ?_
  rw [Vt,Str.cat_of]
  have:=NP (Jh n) (6 - Jh n) n d3
  rw [show Jh n+(6 - Jh n)=6 from by omega] at this
  unfold QT at hk
  rw [this,← List.append_assoc] at hk
  exact hk
end
theorem Y9:∀ n:Nat,n < 100→named (QT n)=true:=by decide +kernel
theorem Nx:∀ n m:Nat,n < m→m < 100→Op.bytesLess (QT n) (QT m)=true:=by
  intro n m h1 h2
  have:∀ m:Nat,m < 100→∀ n:Nat,n < m→Op.bytesLess (QT n) (QT m)=true:=by decide +kernel
  exact this m h2 n h1
theorem V9 {n m:Nat} (h1:n < 100) (h2:m < 100) (e:QT n=QT m):n=m:=by
  rcases Nat.lt_trichotomy n m with h | h | h
  · have := Nx n m h h2
    rw [e,Str.bytesLess_irrefl] at this;cases this
  · exact h
  · have := Nx m n h h1
    rw [e,Str.bytesLess_irrefl] at this;cases this
theorem any_not:∀ n:Nat,n < 100→QT n≠[97,110,121]:=by decide +kernel
end Go.Proofs.YtfgdelkdmdmfgaaDoor
namespace Go.Proofs.YtfgdelkdmdmfgaaDoor
open Go Go.Am
set_option linter.all false
set_option maxRecDepth 100000
def it1 (x:Int):Int:=if eqI (DM .u32 x (Int.ofNat 1)) (Int.ofNat 1)=true then VF .u32 (Ve x (Y2 1 (IntKind.bits .u32))) (Int.ofNat 2197175160) else Ve x (Y2 1 (IntKind.bits .u32))
def itN:Nat→Int→Int
  | 0,x=>x
  | n+1,x=>itN n (it1 x)
theorem QbD:∀ (n:Nat) (x:Int),itN (n+1) x=it1 (itN n x)
  | 0,x=>rfl
  | n+1,x=>QbD n (it1 x)
def Gu (s:Int) (c:UInt8):Int:=itN 8 (VF .u32 s (Qd .u32 (bI c)))
def nt (x:Int):Int:=Qd .u32 (Int.ofNat (Nat.xor (toU .u32 (Int.ofNat (Nat.sub (KO .u32) 1))) (toU .u32 x)))
theorem nt_is (x:Int) (k:AV→Prop):op' (aUn .xor (.int .u32 x)) k=k (.int .u32 (nt x)):=rfl
def UD (b:List UInt8):Int:=nt (b.foldl Gu (nt (Int.ofNat 0)))
section
variable {KI:Int→H→Prop}
theorem t70 {b : List UInt8} {a : AV} {h : H} (q : SlB h a b) (hl : b.length ≤ 140737488351232) (hk : KI (UD b) h) : J1 J0 (Int.ofNat 0) a h KI := by
  unfold J1
  rw [nt_is,Qa,q.len]
  refine YA b.length (fun i x h'=>h'=h∧x=(.int .u32 ((b.take i).foldl Gu (nt (Int.ofNat 0))),a,.int .i64 (Int.ofNat b.length),.int .i64 (Int.ofNat i),())) (by omega) ?_ ?_ ⟨rfl,rfl⟩
  · rintro i x h' self hi ⟨rfl, rfl⟩ hs
    dsimp only
    obtain ⟨p,p1,p2⟩:=q.at hi
    rw [Qa,Qa,Qg,ZA hi,QO,p1,p2 h' _ (fun _ _=>rfl),Qo,Qa,Qo]
    have et:(b.take (i+1)).foldl Gu (nt (Int.ofNat 0))=Gu ((b.take i).foldl Gu (nt (Int.ofNat 0))) b[i]:=by
      rw [List.take_succ_eq_append_getElem hi,List.foldl_append];rfl
    refine YA 8 (fun j y h''=>h''=h'∧y=(.int .u32 (itN j (VF .u32 ((b.take i).foldl Gu (nt (Int.ofNat 0))) (Qd .u32 (bI b[i])))),a,.int .i64 (Int.ofNat b.length),.int .i64 (Int.ofNat i),.int .i64 (Int.ofNat j),())) (by decide) ?_ ?_ ⟨rfl,rfl⟩
    · rintro j y h'' self2 hj ⟨rfl, rfl⟩ hs2
      dsimp only
      rw [Qa,Qg,ZA hj,QO,Vp,Qa,Qo,Qa,Qo,Qg]
      have key:∀ z,z=it1 (itN j (VF .u32 ((b.take i).foldl Gu (nt (Int.ofNat 0))) (Qd .u32 (bI b[i]))))→(asI .i64 (AV.int .i64 (Int.ofNat j)) fun x26=>fI (Qd .i64 (Int.add x26 (Int.ofNat 1))) fun x27=>self2 ((AV.int .u32 z),a,(AV.int .i64 (Int.ofNat b.length)),(AV.int .i64 (Int.ofNat i)),(AV.int .i64 x27),()) [] h''):=fun z hz=>by
        rw [Qa,Qo,Ud j (by omega)]
        exact hs2 _ _ ⟨rfl,by rw [QbD,hz]⟩
      refine QP (fun h0=>?_) fun h0=>?_
      · rw [Qo];exact key _ (by unfold it1;rw [if_pos h0])
      · exact key _ (by unfold it1;rw [if_neg (by rw [h0];decide)])
    · rintro y h'' self2 ⟨rfl, rfl⟩
      dsimp only
      rw [Qa,Qg,Za (Nat.le_refl _),Qr,Qa,Qo,Ud i (by omega)]
      exact hs _ _ ⟨rfl,by rw [et];rfl⟩
  · rintro x h' self ⟨rfl, rfl⟩
    dsimp only
    rw [Qa,Qa,Qg,Za (Nat.le_refl _),Qr,nt_is,Qa,List.take_length]
    exact hk
theorem t56 {b:List UInt8} {a:AV} {h:H} (q:SlB h a b) (hl:b.length≤140737488351232) (hk:KI (UD b) h):Xj J0 (J1 J0) a h KI:=t70 q hl hk
end
def by8 (n:Int):UInt8:=UInt8.ofNat n.toNat
theorem by8_is (y:Int):Qd .u8 y=Int.ofNat (by8 (Qd .u8 y)).toNat:=by
  have h:0≤Qd .u8 y∧Qd .u8 y < 256:=by rw [Gx];omega
  generalize Qd .u8 y=z at h ⊢
  unfold by8
  rw [WD (by omega)]
  show z=((z.toNat:Nat):Int);omega
def Wg (x:Int) (i:Nat):UInt8:=by8 (Qd .u8 (Ve x (Y2 (8 * i) (IntKind.bits .u32))))
def Zw (b:List UInt8):List UInt8:=b++[Wg (UD b) 0,Wg (UD b) 1,Wg (UD b) 2,Wg (UD b) 3]
theorem V4 (b:List UInt8):(Zw b).length=b.length+4:=by unfold Zw;simp
theorem sumB_take (x:Int) (i:Nat) (h:i < 4):([Wg x 0,Wg x 1,Wg x 2,Wg x 3]:List UInt8).take (i+1)=[Wg x 0,Wg x 1,Wg x 2,Wg x 3].take i++[Wg x i]:=by
  have:i=0∨i=1∨i=2∨i=3:=by omega
  rcases this with rfl | rfl | rfl | rfl <;> rfl
section
variable {KV:AV→H→Prop} {KB:AV→Bool→H→Prop}
theorem t41 {b:List UInt8} {a:AV} {h:H} (q:SlB h a b) (hb:h.base≤h.next) (hl:b.length≤100000000000000) (hk:∀ v h',Row true 5 h.next h' v (Zw b)→Low h.next h h'→KV v h'):Xk J0 (Xj J0 (J1 J0)) a h KV:=by
  unfold Xk
  refine YZ (Row.nil true 5 h.next h) hb (Nat.le_refl _) (q.src 5) (by unfold Qe;simp;omega) fun v1 h2 r2 l2=>?_
  refine t56 (q.low l2 (Nat.le_refl _)) (by omega) ?_
  refine YA 4 (fun i x h'=>∃ w,x=(w,.int .u32 (UD b),.int .i64 (Int.ofNat i),())∧Low h.next h h'∧Row true 5 h.next h' w (b++[Wg (UD b) 0,Wg (UD b) 1,Wg (UD b) 2,Wg (UD b) 3].take i)) (by decide) ?_ ?_ ⟨v1,rfl,l2,by simpa using r2⟩
  · rintro i x h5 self hi ⟨w, rfl, l5, g5⟩ hs
    dsimp only
    have b5:=l5.base
    have n5:=l5.next
    rw [Qa,Qg,ZA hi,QO,Qa,Qo,Qaw,Yg _ (by omega),Qa,X5,Qo,Qo,by8_is]
    show op' (Wd true 5 [.int .u8 (Int.ofNat (Wg (UD b) i).toNat)]) _
    rw [lit1,Qy,QW]
    have l6:=Low.push h5.next h5 (.bytes 5 0 false (Str.of [Wg (UD b) i])) (Nat.le_refl _)
    have r6:Row true 5 h5.next (QI h5 (.bytes 5 0 false (Str.of [Wg (UD b) i]))) (.slice h5.next 0 1 1 1 true) [Wg (UD b) i]:=Row.push (l:=[Wg (UD b) i]) false true (Nat.le_refl _)
    have n6:(QI h5 (.bytes 5 0 false (Str.of [Wg (UD b) i]))).next=h5.next+1:=rfl
    have b6:=l6.base
    refine YZ (g5.low l6 (Nat.le_refl _)) (by omega) (by omega) (fun f=>VY r6 f) (by unfold Qe;rw [List.length_append,List.length_take];simp;omega) fun v7 h7 r7 l7=>?_
    rw [Qa,Qo,Ud i (by omega)]
    refine hs _ _ ⟨v7,rfl,(l5.trans (l6.down n5)).trans l7,?_⟩
    rw [sumB_take _ _ hi,← List.append_assoc];exact r7
  · rintro x h5 self ⟨w, rfl, l5, g5⟩
    dsimp only
    rw [Qa,Qg,Za (Nat.le_refl _),Qr]
    exact hk _ _ g5 l5
theorem Df {h:H} {v:AV} {b:List UInt8} (s:SlB h v b):UH v h=some (.str (Str.of b)):=by
  rcases s with ⟨rfl,rfl⟩ | ⟨id,off,cap,ex,t,f,sg,l,rfl,e2,e3,e4⟩
  · rfl
  · unfold UH
    simp only [e2]
    show (Bool.rec (motive:=fun _=>Option AV) none (some (.str ((Str.of l).sub off (off+b.length)))) (Nat.ble (off+b.length) l.length))=_
    rw [(Qk _ _).2 e3,Str.sub_of l off _ (by omega) e3,e4.1]
theorem t68 {r:List UInt8} {a:AV} {h:H} (q:SlB h a (Zw r)) (hb:h.base≤h.next) (hl:r.length≤100000000000000) (hk:∀ v h',Row true 5 h.next h' v r→Low h.next h h'→KB v true h'):G9 J0 (Xk J0 (Xj J0 (J1 J0))) a h KB:=by
  unfold G9
  have el:=V4 r
  rw [q.len,el,Qo,Kt _ _ (by omega),show r.length+4 - 4=r.length from by omega,Yg _ (by omega)]
  have z1:ltI (Int.ofNat r.length) (Int.ofNat 0)=false:=Za (Nat.zero_le _)
  have ht:(Zw r).take r.length=r:=by unfold Zw;exact List.take_left
  have TS:=q.str
  simp only [↓Qg,z1,↓Qq,↓Qdn,↓QO,↓Qr,↓QS,↓QF,↓Qm,↓Qa,↓TS]
  refine q.head (by omega) fun v13 s13=>?_
  rw [ht] at s13
  refine t41 s13 hb hl fun v25 h24 r25 l24=>?_
  have q24:=q.low l24 (Nat.le_refl _)
  refine Qp (Zy (Df q24) (Kw _)) ?_
  rw [r25.slb.str,Wk,Wk,Str.beq_of,show ((Zw r) == (Zw r))=true from by simp,Bool.not_true,Qr]
  refine q24.head (by omega) fun v37 s33=>?_
  rw [ht] at s33
  have n24:=l24.next
  have b24:=l24.base
  refine YZ (Row.nil true 5 h.next h24) (by omega) (by omega) (s33.src 5) (by unfold Qe;simp;omega) fun v' h' r' l'=>?_
  exact hk _ _ (by simpa using r') (l24.trans (l'.down (Nat.le_refl _)))
end
end Go.Proofs.YtfgdelkdmdmfgaaDoor
namespace Go.Proofs.YtfgdelkdmdmfgaaDoor
open Go Go.Am
set_option linter.all false
set_option maxRecDepth 100000
def JK (n:Nat):List UInt8:=[UInt8.ofNat n,UInt8.ofNat (n / 2 ^ 8),UInt8.ofNat (n / 2 ^ 16),UInt8.ofNat (n / 2 ^ 24)]
def Qs (r:List UInt8):List UInt8:=Zw (JK r.length)++Zw r
theorem Yc (n:Nat):(Zw (JK n)).length=8:=by rw [V4];rfl
theorem Zd (r:List UInt8):(Qs r).length=12+r.length:=by
  unfold Qs;rw [List.length_append,Yc,V4];omega
theorem w8m (m:Nat):Qd .u8 (Int.ofNat m)=Int.ofNat (UInt8.ofNat m).toNat:=by
  rw [Gx]
  show (m:Int) % 256=(((UInt8.ofNat m).toNat:Nat):Int)
  simp
theorem Us {x c k:Nat} (hk:k≤32) (hx:x < 2 ^ k) (hd:c * 2 ^ k+x < 4294967296):Uv .u32 (Int.ofNat x) (VQ .u32 (Int.ofNat c) k)=Int.ofNat (c * 2 ^ k+x):=by
  have e1:VQ .u32 (Int.ofNat c) k=Int.ofNat (c * 2 ^ k):=by
    unfold VQ
    rw [GF (by show k≤32;exact hk)]
    have e2:Nat.shiftLeft 1 k=2 ^ k:=by
      show 1 <<< k=_
      rw [Nat.shiftLeft_eq,Nat.one_mul]
    rw [e2]
    exact Zi (kk:=.u32) (m:=c * 2 ^ k) (by show c * 2 ^ k < 4294967296;omega)
  rw [e1]
  unfold Uv
  have t1:toU .u32 (Int.ofNat x)=x:=Nat.mod_eq_of_lt (by show x < 4294967296;omega)
  have t2:toU .u32 (Int.ofNat (c * 2 ^ k))=c * 2 ^ k:=Nat.mod_eq_of_lt (by show c * 2 ^ k < 4294967296;omega)
  rw [t1,t2]
  have e:Nat.lor x (c * 2 ^ k)=c * 2 ^ k+x:=by
    have:=Nat.shiftLeft_add_eq_or_of_lt (i:=k) (b:=x) hx c
    rw [Nat.shiftLeft_eq] at this
    rw [this];exact Nat.or_comm _ _
  rw [e]
  exact Zi (kk:=.u32) (by show c * 2 ^ k+x < 4294967296;exact hd)
section
variable {KA:AV→Int→H→Prop} {KR:AV→Int→Int→H→Prop}
theorem t25 {r:List UInt8} {a:AV} {h:H} (q:SlB h a r) (hb:h.base≤h.next) (hl:r.length≤1048576) (hk:∀ v h',Row true 5 h.next h' v (Qs r)→Low h.next h h'→KA v (Int.ofNat 0) h'):Qeh J0 (Xk J0 (Xj J0 (J1 J0))) .nils a h KA:=by
  unfold Qeh
  rw [q.len,Qg,Za hl,Qr]
  refine YZ (Row.nil true 5 h.next h) hb (Nat.le_refl _) ((SlB.nil h).src 5) (by unfold Qe;simp) fun v3 h4 r4 l4=>?_
  have n4:=l4.next
  have b4:=l4.base
  have e8:Y2 8 (IntKind.bits .i64)=8:=rfl
  have e16:Y2 16 (IntKind.bits .i64)=16:=rfl
  have e24:Y2 24 (IntKind.bits .i64)=24:=rfl
  rw [Qo,Qo,Qo,Qo,Qo,Qo,Qo,e8,e16,e24,WA,WA,WA,w8m,w8m,w8m,w8m]
  have e1:Wd true 5 [AV.int .u8 (Int.ofNat (UInt8.ofNat r.length).toNat),.int .u8 (Int.ofNat (UInt8.ofNat (r.length / 2 ^ 8)).toNat),.int .u8 (Int.ofNat (UInt8.ofNat (r.length / 2 ^ 16)).toNat),.int .u8 (Int.ofNat (UInt8.ofNat (r.length / 2 ^ 24)).toNat)]=some (.bytes 5 0 false (Str.of (JK r.length))):=X1 5 (JK r.length)
  rw [e1,Qy,QW]
  have l13:=Low.push h4.next h4 (.bytes 5 0 false (Str.of (JK r.length))) (Nat.le_refl _)
  have r13:Row true 5 h4.next (QI h4 (.bytes 5 0 false (Str.of (JK r.length)))) (.slice h4.next 0 4 4 1 true) (JK r.length):=Row.push (l:=JK r.length) false true (Nat.le_refl _)
  have n13:(QI h4 (.bytes 5 0 false (Str.of (JK r.length)))).next=h4.next+1:=rfl
  have b13:=l13.base
  refine t41 r13.slb (by omega) (by show 4≤_;omega) fun v16 h15 r15 l15=>?_
  have n15:=l15.next
  have b15:=l15.base
  have r4':=(r4.low l13 (Nat.le_refl _)).low l15 (Nat.le_refl _)
  refine YZ r4' (by omega) (by omega) (fun f=>VY r15 f) (by unfold Qe;rw [Yc];simp) fun v17 h18 r18 l18=>?_
  have n18:=l18.next
  have b18:=l18.base
  have q18:=(((q.low l4 (Nat.le_refl _)).low l13 (Nat.le_refl _)).low l15 (Nat.le_refl _))
  have q18':SlB h18 a r:=by
    refine (q.low ((l4.trans (l13.down (by omega))).trans ((l15.down (by omega)).trans l18)) (Nat.le_refl _))
  refine t41 q18' (by omega) (by omega) fun v20 h19 r19 l19=>?_
  have n19:=l19.next
  have b19:=l19.base
  refine YZ (r18.low l19 (Nat.le_refl _)) (by omega) (by omega) (fun f=>VY r19 f) (by unfold Qe;rw [List.length_append,List.length_append,Yc,V4];simp;omega) fun v21 h22 r22 l22=>?_
  refine hk _ _ ?_ (((l4.trans (l13.down (by omega))).trans ((l15.down (by omega)).trans l18)).trans ((l19.down (by omega)).trans l22))
  unfold Qs
  simpa using r22
theorem t52 {r rest:List UInt8} {a:AV} {h:H} (q:SlB h a (Qs r++rest)) (hb:h.base≤h.next) (hl:r.length≤1048576) (hr:(Qs r++rest).length≤100000000000) (hk:∀ v h',Row true 5 h.next h' v r→Low h.next h h'→KR v (Int.ofNat (12+r.length)) (Int.ofNat 0) h'):N4 J0 (G9 J0 (Xk J0 (Xj J0 (J1 J0)))) a h KR:=by
  have fl:=Zd r
  rw [List.length_append,fl] at hr
  unfold N4 Dq No
  dsimp only
  rw [q.len,List.length_append,fl,Qg,Za (by omega),Qr]
  unfold Dp
  dsimp only
  refine q.head (by rw [List.length_append,fl];omega) fun v3 s3=>?_
  have e8:(Qs r++rest).take 8=Zw (JK r.length):=by
    unfold Qs
    rw [List.append_assoc]
    exact List.take_left' (Yc _)
  rw [e8] at s3
  refine t68 s3 hb (by show 4≤_;omega) fun v5 h4 r5 l4=>?_
  have n4:=l4.next
  have b4:=l4.base
  unfold Gi
  dsimp only
  rw [Qg,Bool.not_true,Qr]
  unfold Nn
  dsimp only
  have s5:=r5.slb
  obtain ⟨q0,a0,f0⟩:=s5.at (i:=0) (by show 0 < 4;omega)
  have d0:∀ (h':H) (k:Int→Prop),(∀ id,id < h4.next→h'.get id=h4.get id)→ldI .u8 q0 h' k=k (bI (UInt8.ofNat r.length)):=f0
  obtain ⟨q1,a1,f1⟩:=s5.at (i:=1) (by show 1 < 4;omega)
  have d1:∀ (h':H) (k:Int→Prop),(∀ id,id < h4.next→h'.get id=h4.get id)→ldI .u8 q1 h' k=k (bI (UInt8.ofNat (r.length / 2 ^ 8))):=f1
  obtain ⟨q2,a2,f2⟩:=s5.at (i:=2) (by show 2 < 4;omega)
  have d2:∀ (h':H) (k:Int→Prop),(∀ id,id < h4.next→h'.get id=h4.get id)→ldI .u8 q2 h' k=k (bI (UInt8.ofNat (r.length / 2 ^ 16))):=f2
  obtain ⟨q3,a3,f3⟩:=s5.at (i:=3) (by show 3 < 4;omega)
  have d3:∀ (h':H) (k:Int→Prop),(∀ id,id < h4.next→h'.get id=h4.get id)→ldI .u8 q3 h' k=k (bI (UInt8.ofNat (r.length / 2 ^ 24))):=f3
  rw [a0,d0 h4 _ (fun _ _=>rfl),Qo,a1,d1 h4 _ (fun _ _=>rfl),Qo,Qo,Qo,a2,d2 h4 _ (fun _ _=>rfl),Qo,Qo,Qo,a3,d3 h4 _ (fun _ _=>rfl),Qo,Qo,Qo]
  have m0:Qd .u32 (bI (UInt8.ofNat r.length))=Int.ofNat (r.length % 256):=by
    show Qd .u32 (Int.ofNat (UInt8.ofNat r.length).toNat)=_
    rw [UO _ (by have:=(UInt8.ofNat r.length).toNat_lt;omega)];simp
  have m1:Qd .u32 (bI (UInt8.ofNat (r.length / 2 ^ 8)))=Int.ofNat (r.length / 2 ^ 8 % 256):=by
    show Qd .u32 (Int.ofNat (UInt8.ofNat (r.length / 2 ^ 8)).toNat)=_
    rw [UO _ (by have:=(UInt8.ofNat (r.length / 2 ^ 8)).toNat_lt;omega)];simp
  have m2:Qd .u32 (bI (UInt8.ofNat (r.length / 2 ^ 16)))=Int.ofNat (r.length / 2 ^ 16 % 256):=by
    show Qd .u32 (Int.ofNat (UInt8.ofNat (r.length / 2 ^ 16)).toNat)=_
    rw [UO _ (by have:=(UInt8.ofNat (r.length / 2 ^ 16)).toNat_lt;omega)];simp
  have m3:Qd .u32 (bI (UInt8.ofNat (r.length / 2 ^ 24)))=Int.ofNat (r.length / 2 ^ 24 % 256):=by
    show Qd .u32 (Int.ofNat (UInt8.ofNat (r.length / 2 ^ 24)).toNat)=_
    rw [UO _ (by have:=(UInt8.ofNat (r.length / 2 ^ 24)).toNat_lt;omega)];simp
  rw [m0,m1,m2,m3,Us (by omega) (by omega) (by omega),Us (by omega) (by omega) (by omega),Us (by omega) (by omega) (by omega)]
  have ev:r.length / 2 ^ 24 % 256 * 2 ^ 24+(r.length / 2 ^ 16 % 256 * 2 ^ 16+(r.length / 2 ^ 8 % 256 * 2 ^ 8+r.length % 256))=r.length:=by omega
  rw [ev]
  unfold Qbp
  have q4:=q.low l4 (Nat.le_refl _)
  rw [Qg,Za hl,Qr,Qo,Yg _ (by omega),Qo,ZE,Yg _ (by omega),Qo,ZE,Yg _ (by omega),q4.len,List.length_append,fl,Qg,Za (by omega),Qr]
  refine q4.cut (YT 0 8 .i64) (YT _ (8+r.length+4) .i64) (by omega) (by rw [List.length_append,fl];omega) fun v32 s10=>?_
  have e9:((Qs r++rest).take (8+r.length+4)).drop 8=Zw r:=by
    have h1:(Qs r++rest).take (8+r.length+4)=Qs r:=List.take_left' (by rw [fl];omega)
    rw [h1]
    unfold Qs
    exact List.drop_left' (Yc _)
  rw [e9] at s10
  refine t68 s10 (by omega) (by omega) fun v34 h33 r33 l33=>?_
  rw [Qg,Bool.not_true,Qr,show 8+r.length+4=12+r.length from by omega]
  exact hk _ _ (r33.down (by omega)) (l4.trans (l33.down n4))
theorem t52t {r t:List UInt8} {a:AV} {h:H} (q:SlB h a t) (hp:t <+: Qs r) (ht:t.length < (Qs r).length) (hb:h.base≤h.next) (hl:r.length≤1048576) (hk:∀ h',Low h.next h h'→KR .nils (Int.ofNat 0) (Int.ofNat 4) h'):N4 J0 (G9 J0 (Xk J0 (Xj J0 (J1 J0)))) a h KR:=by
  have fl:=Zd r
  rw [fl] at ht
  unfold N4 Dq No
  dsimp only
  rw [q.len,Qg,ZI]
  by_cases h8:t.length < 8
  · rw [decide_eq_true h8, QO]
    exact hk _ (Low.refl _ _)
  rw [decide_eq_false h8,Qr]
  unfold Dp
  dsimp only
  refine q.head (by omega) fun v3 s3=>?_
  obtain ⟨u,hu⟩:=hp
  have e8:t.take 8=Zw (JK r.length):=by
    have h1:(Qs r).take 8=Zw (JK r.length):=by unfold Qs;exact List.take_left' (Yc _)
    rw [← h1,← hu,List.take_append_of_le_length (by omega)]
  rw [e8] at s3
  refine t68 s3 hb (by show 4≤_;omega) fun v5 h4 r5 l4=>?_
  have n4:=l4.next
  have b4:=l4.base
  unfold Gi
  dsimp only
  rw [Qg,Bool.not_true,Qr]
  unfold Nn
  dsimp only
  have s5:=r5.slb
  obtain ⟨q0,a0,f0⟩:=s5.at (i:=0) (by show 0 < 4;omega)
  have d0:∀ (h':H) (k:Int→Prop),(∀ id,id < h4.next→h'.get id=h4.get id)→ldI .u8 q0 h' k=k (bI (UInt8.ofNat r.length)):=f0
  obtain ⟨q1,a1,f1⟩:=s5.at (i:=1) (by show 1 < 4;omega)
  have d1:∀ (h':H) (k:Int→Prop),(∀ id,id < h4.next→h'.get id=h4.get id)→ldI .u8 q1 h' k=k (bI (UInt8.ofNat (r.length / 2 ^ 8))):=f1
  obtain ⟨q2,a2,f2⟩:=s5.at (i:=2) (by show 2 < 4;omega)
  have d2:∀ (h':H) (k:Int→Prop),(∀ id,id < h4.next→h'.get id=h4.get id)→ldI .u8 q2 h' k=k (bI (UInt8.ofNat (r.length / 2 ^ 16))):=f2
  obtain ⟨q3,a3,f3⟩:=s5.at (i:=3) (by show 3 < 4;omega)
  have d3:∀ (h':H) (k:Int→Prop),(∀ id,id < h4.next→h'.get id=h4.get id)→ldI .u8 q3 h' k=k (bI (UInt8.ofNat (r.length / 2 ^ 24))):=f3
  rw [a0,d0 h4 _ (fun _ _=>rfl),Qo,a1,d1 h4 _ (fun _ _=>rfl),Qo,Qo,Qo,a2,d2 h4 _ (fun _ _=>rfl),Qo,Qo,Qo,a3,d3 h4 _ (fun _ _=>rfl),Qo,Qo,Qo]
  have m0:Qd .u32 (bI (UInt8.ofNat r.length))=Int.ofNat (r.length % 256):=by
    show Qd .u32 (Int.ofNat (UInt8.ofNat r.length).toNat)=_
    rw [UO _ (by have:=(UInt8.ofNat r.length).toNat_lt;omega)];simp
  have m1:Qd .u32 (bI (UInt8.ofNat (r.length / 2 ^ 8)))=Int.ofNat (r.length / 2 ^ 8 % 256):=by
    show Qd .u32 (Int.ofNat (UInt8.ofNat (r.length / 2 ^ 8)).toNat)=_
    rw [UO _ (by have:=(UInt8.ofNat (r.length / 2 ^ 8)).toNat_lt;omega)];simp
  have m2:Qd .u32 (bI (UInt8.ofNat (r.length / 2 ^ 16)))=Int.ofNat (r.length / 2 ^ 16 % 256):=by
    show Qd .u32 (Int.ofNat (UInt8.ofNat (r.length / 2 ^ 16)).toNat)=_
    rw [UO _ (by have:=(UInt8.ofNat (r.length / 2 ^ 16)).toNat_lt;omega)];simp
  have m3:Qd .u32 (bI (UInt8.ofNat (r.length / 2 ^ 24)))=Int.ofNat (r.length / 2 ^ 24 % 256):=by
    show Qd .u32 (Int.ofNat (UInt8.ofNat (r.length / 2 ^ 24)).toNat)=_
    rw [UO _ (by have:=(UInt8.ofNat (r.length / 2 ^ 24)).toNat_lt;omega)];simp
  rw [m0,m1,m2,m3,Us (by omega) (by omega) (by omega),Us (by omega) (by omega) (by omega),Us (by omega) (by omega) (by omega)]
  have ev:r.length / 2 ^ 24 % 256 * 2 ^ 24+(r.length / 2 ^ 16 % 256 * 2 ^ 16+(r.length / 2 ^ 8 % 256 * 2 ^ 8+r.length % 256))=r.length:=by omega
  rw [ev]
  unfold Qbp
  have q4:=q.low l4 (Nat.le_refl _)
  rw [Qg,Za hl,Qr,Qo,Yg _ (by omega),Qo,ZE,Yg _ (by omega),Qo,ZE,Yg _ (by omega),q4.len,Qg,ZA (by omega),QO]
  exact hk _ l4
end
end Go.Proofs.YtfgdelkdmdmfgaaDoor
namespace Go.Proofs.YtfgdelkdmdmfgaaDoor
open Go Go.Am
set_option linter.all false
set_option maxRecDepth 100000
def Qfm (t:List UInt8):Prop:=t=[]∨∃ r,t <+: Qs r∧t.length < (Qs r).length∧r.length≤1048576
abbrev Sl1:={ a:AV // ZB a=true }
def sl1 (a:Sl1):List AV:=[a.1]
theorem Qag (a:Sl1):(sl1 a).length=1:=rfl
theorem Qa8 (a:Sl1):ZV (sl1 a)=true:=by
  show (Bool.rec (motive:=fun _=>Bool) false true (ZB a.1):Bool)=true
  rw [a.2]
def Qd0 (h:H) (N:Nat) (v:AV) (rs:List (List UInt8)):Prop:=∃ ls:List Sl1,Grow sl1 39 1 N h v ls∧ls.length=rs.length∧∀ (i:Nat) (h1:i < ls.length) (h2:i < rs.length),SlB h ls[i].1 rs[i]
def pRd:Fun:=w52 (N4 J0 (G9 J0 (Xk J0 (Xj J0 (J1 J0)))))
theorem Qat (v:AV) (h:H) (K:AV→H→Prop):pRd [v] h K=N4 J0 (G9 J0 (Xk J0 (Xj J0 (J1 J0)))) v h fun r0 r1 r2 h=>K (.tuple [r0,.int .i64 r1,.int .i64 r2]) h:=rfl
theorem NJ {rs:List (List UInt8)} {i:Nat} (hi:i < rs.length):((rs.take (i+1)).flatMap Qs).length=((rs.take i).flatMap Qs).length+(12+rs[i].length):=by
  rw [List.take_succ_eq_append_getElem hi,List.flatMap_append,List.length_append,List.flatMap_cons,List.flatMap_nil,List.append_nil,Zd]
theorem Jd (rs:List (List UInt8)) (t:List UInt8) (i:Nat):((rs.flatMap Qs)++t).drop ((rs.take i).flatMap Qs).length=(rs.drop i).flatMap Qs++t:=by
  have e:rs.flatMap Qs++t=(rs.take i).flatMap Qs++((rs.drop i).flatMap Qs++t):=by
    rw [← List.append_assoc,← List.flatMap_append,List.take_append_drop]
  rw [e,List.drop_left]
theorem WS (l:List AV) (k:List AV→Prop):asTup (.tuple l) k=k l:=rfl
theorem tri0 (a b c:AV) (k:AV→Prop):op' (Q8 [a,b,c] 0) k=k a:=rfl
theorem tri1 (a b c:AV) (k:AV→Prop):op' (Q8 [a,b,c] 1) k=k b:=rfl
theorem tri2 (a b c:AV) (k:AV→Prop):op' (Q8 [a,b,c] 2) k=k c:=rfl
section
variable {KR:AV→Int→Int→H→Prop}
theorem t33s {rs : List (List UInt8)} {t : List UInt8} {a : AV} {h : H} (q : SlB h a (rs.flatMap Qs ++ t)) (ht : Qfm t) (hrs : ∀ r ∈ rs, r.length ≤ 1048576) (hb : h.base ≤ h.next) (hl : (rs.flatMap Qs ++ t).length ≤ 100000000000) (hn : rs.length ≤ 1000000000)
    (hk:∀ v n e h',Qd0 h' h.next v rs→(e=Int.ofNat 0∨e=Int.ofNat 4)→Low h.next h h'→KR v n e h'):Qcc J0 pRd a h KR:=by
  unfold Qcc
  rw [Vp]
  refine YA rs.length (fun i x h'=>∃ w,x=(a,w,.int .i64 (Int.ofNat ((rs.take i).flatMap Qs).length),())∧Qd0 h' h.next w (rs.take i)∧Low h.next h h') (by omega) ?_ ?_ ⟨.nils,rfl,⟨[],.nil _ _ _ _ _,by simp,fun i h1=>absurd h1 (Nat.not_lt_zero _)⟩,Low.refl _ _⟩
  · rintro i x h1 self hi ⟨w, rfl, ⟨ls, gr, hll, hsl⟩, lo⟩ hs
    have n1:=lo.next
    have b1:=lo.base
    have q1:=q.low lo (Nat.le_refl _)
    have fl:=NJ hi
    have fd:=Jd rs t i
    have hlen:((rs.take i).flatMap Qs).length+((rs.drop i).flatMap Qs++t).length=(rs.flatMap Qs++t).length:=by
      rw [← fd,List.length_drop]
      have:((rs.take i).flatMap Qs).length≤(rs.flatMap Qs++t).length:=by
        have e:rs.flatMap Qs++t=(rs.take i).flatMap Qs++((rs.drop i).flatMap Qs++t):=by
          rw [← List.append_assoc,← List.flatMap_append,List.take_append_drop]
        rw [e,List.length_append];omega
      omega
    have ed:rs.drop i=rs[i]::rs.drop (i+1):=List.drop_eq_getElem_cons hi
    have ef:(rs.drop i).flatMap Qs++t=Qs rs[i]++((rs.drop (i+1)).flatMap Qs++t):=by rw [ed,List.flatMap_cons,List.append_assoc]
    have hpos:0 < ((rs.drop i).flatMap Qs++t).length:=by rw [ef,List.length_append,Zd];omega
    dsimp only
    rw [q1.len,Qa,Qg,ZA (by omega),QO]
    refine q1.tail (by omega) fun v14 s14=>?_
    rw [fd,ef] at s14
    rw [Qat]
    have hri:rs[i].length≤1048576:=hrs _ (List.getElem_mem hi)
    refine t52 s14 (by omega) hri (by rw [← ef];omega) fun v16 h15 r15 l15=>?_
    have n15:=l15.next
    have b15:=l15.base
    have one:ZB v16=true:=r15.slb.one
    rw [WS,tri0,WS,tri1,Qa,WS,tri2,Qa,Qg,show eqI (Int.ofNat 0) (Int.ofNat 0)=true from rfl,QO,one,Uf,QW]
    have l27:=Low.push h15.next h15 (.cells false 39 [v16]) (Nat.le_refl _)
    have g27:=WU h15 (.cells false 39 [v16])
    have n27:(QI h15 (.cells false 39 [v16])).next=h15.next+1:=rfl
    generalize QI h15 (.cells false 39 [v16])=h27 at l27 g27 n27 ⊢
    have b27:=l27.base
    have lo27:Low h1.next h1 h27:=l15.trans (l27.down n15)
    have hti:(rs.take i).length=i:=by rw [List.length_take];omega
    refine NW (a:=(⟨v16,one⟩:Sl1)) (gr.keep lo27 (Nat.le_refl _)) Qag Qa8 g27 (by omega) (by omega) (by unfold Qe;omega) fun v28 h29 gr29 l29 bk29=>?_
    have n29:=l29.next
    have b29:=l29.base
    have lo29:Low h.next h h29:=(lo.trans (lo27.down n1)).trans l29
    have R29:Qd0 h29 h.next v28 (rs.take (i+1)):=by
      refine ⟨ls++[⟨v16,one⟩],gr29,by rw [List.length_append,hll,hti,List.length_take];simp;omega,fun j j1 j2=>?_⟩
      by_cases hj:j < ls.length
      · rw [List.getElem_append_left hj]
        have:=((hsl j hj (by omega)).low lo27 (Nat.le_refl _)).bk bk29
        have e:(rs.take i)[j]'(by omega)=(rs.take (i+1))[j]:=by simp
        rw [← e];exact this
      · have hj2 : j = i := by
          rw [List.length_take] at j2;omega
        subst hj2
        rw [List.getElem_append_right (by omega)]
        have h0:j - ls.length=0:=by omega
        have:SlB h29 v16 rs[j]:=(r15.slb.low l27 (Nat.le_refl _)).bk bk29
        simp only [h0,List.getElem_cons_zero,List.getElem_take]
        exact this
    rw [Qa,Qo,ZE,← fl,Yg _ (by rw [fl];rw [ef,List.length_append,Zd] at hlen;omega)]
    have q29:=q.low lo29 (Nat.le_refl _)
    rw [q29.len,Qg,W5]
    by_cases hend:((rs.take (i+1)).flatMap Qs).length=(rs.flatMap Qs++t).length
    · rw [decide_eq_true hend, QO]
      have hi1:rs.take (i+1)=rs:=by
        have h2:((rs.drop (i+1)).flatMap Qs++t).length=0:=by
          rw [ef,List.length_append,Zd] at hlen
          omega
        have h3:rs.drop (i+1)=[]:=by
          cases hd:rs.drop (i+1) with
          | nil=>rfl
          | cons r l =>
            rw [hd,List.flatMap_cons,List.length_append,List.length_append,Zd] at h2
            omega
        have:=List.take_append_drop (i+1) rs
        rw [h3,List.append_nil] at this
        exact this
      show KR v28 _ (Int.ofNat 0) h29
      rw [hi1] at R29
      exact hk _ _ _ _ R29 (.inl rfl) lo29
    · rw [decide_eq_false hend, Qr]
      exact hs _ _ ⟨v28,rfl,R29,lo29⟩
  · rintro x h1 self ⟨w, rfl, R, lo⟩
    rw [List.take_length] at R
    have q1:=q.low lo (Nat.le_refl _)
    have n1:=lo.next
    have b1:=lo.base
    dsimp only
    rw [q1.len,Qa,Qg,ZI,List.take_length,List.length_append]
    by_cases h0:t=[]
    · rw [h0, decide_eq_false (by simp), Qr]
      exact hk _ _ _ _ R (.inl rfl) lo
    · have hp : 0 < t.length := List.length_pos_iff.2 h0
      rw [decide_eq_true (by omega),QO]
      rcases ht with ht | ⟨r,hpre,hlt,hr⟩
      · exact absurd ht h0
      refine q1.tail (by rw [List.length_append];omega) fun v14 s14=>?_
      rw [List.drop_left] at s14
      rw [Qat]
      refine t52t s14 hpre hlt (by omega) hr fun h15 l15=>?_
      rw [WS,tri0,WS,tri1,Qa,WS,tri2,Qa,Qg,show eqI (Int.ofNat 4) (Int.ofNat 0)=false from rfl,Qr]
      have R15:Qd0 h15 h.next w rs:=by
        obtain ⟨ls,g1,g2,g3⟩:=R
        exact ⟨ls,g1.keep l15 (Nat.le_refl _),g2,fun i i1 i2=>(g3 i i1 i2).low l15 (Nat.le_refl _)⟩
      exact hk _ _ _ _ R15 (.inr rfl) (lo.trans (l15.down n1))
end
end Go.Proofs.YtfgdelkdmdmfgaaDoor
