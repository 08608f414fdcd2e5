import Derived.Test.YtfgdelkdmdmfgaaDoorWaD
import Derived.Test.YtfgdelkdmdmfgaaDoorSvA2
namespace Go.Proofs.YtfgdelkdmdmfgaaDoor
open Go Go.Am
set_option linter.all false
set_option maxRecDepth 100000
def RowP {α:Type} (f:α→List AV) (es:Nat) (h:H) (v:AV) (l:List α):Prop :=
  (v=.nils∧l=[])∨∃ id c ex m t rest,v=.slice id 0 l.length c es ex∧h.get id=.cells m t (l.flatMap f++rest)∧id < h.next
theorem RowP.of {α:Type} {f:α→List AV} {es:Nat} {h:H} {v:AV} {l:List α} (q:RowAt f es h v l):RowP f es h v l:=by
  rcases q with q | ⟨id,c,ex,m,t,q1,q2,q3⟩
  · exact .inl q
  · exact .inr ⟨id,c,ex,m,t,[],q1,by rw [List.append_nil];exact q2,q3⟩
theorem RowP.keep {α:Type} {f:α→List AV} {es:Nat} {h h':H} {v:AV} {l:List α} (q:RowP f es h v l) (hl:h.next≤h'.next) (hg:∀ id,id < h.next→h'.get id=h.get id):RowP f es h' v l:=by
  rcases q with q | ⟨id,c,ex,m,t,r,q1,q2,q3⟩
  · exact .inl q
  · exact .inr ⟨id,c,ex,m,t,r,q1,(hg id q3).trans q2,Nat.lt_of_lt_of_le q3 hl⟩
theorem RowP.low {α:Type} {f:α→List AV} {es:Nat} {h h':H} {v:AV} {l:List α} (q:RowP f es h v l) {n:Nat} (lo:Low n h h') (hn:h.next≤n):RowP f es h' v l :=
  q.keep lo.next fun id hi=>lo.get id (by omega)
theorem RowP.len {α:Type} {f:α→List AV} {es:Nat} {h:H} {v:AV} {l:List α} (q:RowP f es h v l) (k:Nat→Prop):ZH v k=k l.length:=by
  rcases q with ⟨rfl,rfl⟩ | ⟨id,c,ex,m,t,r,rfl,q2,q3⟩ <;> rfl
theorem Uw {α:Type} {cs l:List α} {n o off:Nat} (h:Z4 n (Yh o cs)=some l) (ho:off < n):Q8 cs (Nat.add o off)=Q8 l off:=by
  rw [WM,Vk] at h
  split at h
  · injection h with h; subst h
    rw [Vn,Vn,List.getElem?_take,if_pos ho,List.getElem?_drop];rfl
  · cases h
theorem RowP.rd {α:Type} {f:α→List AV} {es:Nat} (hf:∀ a,(f a).length=es) {h:H} {v:AV} {l:List α} (q:RowP f es h v l) {i:Nat} (hi:i < l.length) :
    ∃ id o, (∀ (kk : IntKind) (k : AV → Prop), ixK es v (.int kk (Int.ofNat i)) k = k (.ptr id o)) ∧ (∀ (h' : H) (k : List AV → Prop), (∀ id, id < h.next → h'.get id = h.get id) → ldN es (.ptr id o) h' k = k (f l[i])) ∧
      (∀ (h':H) (off:Nat) (s:Str) (k:Str→Prop),(∀ id,id < h.next→h'.get id=h.get id)→off < es→Q8 (f l[i]) off=some (.str s)→ldS (.ptr id (Nat.add o off)) h' k=k s) ∧
      ∀ (h':H) (off:Nat) (s:Bool) (k:Bool→Prop),(∀ id,id < h.next→h'.get id=h.get id)→off < es→Q8 (f l[i]) off=some (.bool s)→ldB (.ptr id (Nat.add o off)) h' k=k s:=by
  rcases q with ⟨rfl,rfl⟩ | ⟨id,c,ex,m,t,r,rfl,q2,q3⟩
  · simp at hi
  · have q4 : Z4 es (Yh (i * es) (l.flatMap f ++ r)) = some (f l[i]) := by
      have h3:(i+1) * es≤l.length * es:=Nat.mul_le_mul_right es hi
      rw [Nat.add_mul] at h3
      have h4:(i * es)≤(l.flatMap f).length:=by rw [ZS hf];omega
      rw [WM,List.drop_append_of_le_length h4,Y4,List.take_append_of_le_length,NM hf l hi]
      · rw [List.length_drop,ZS hf];omega
      · rw [List.length_append,List.length_drop,ZS hf];omega
    refine ⟨id,i * es,fun kk k=>ixKn hi k,fun h' k hg=>YB ((hg id q3).trans q2) q4 k,fun h' off s k hg ho e=>YP ((hg id q3).trans q2) ((Uw q4 ho).trans e) k,fun h' off s k hg ho e=>Wv ((hg id q3).trans q2) ((Uw q4 ho).trans e) k⟩
theorem WU (h:H) (b:Blk):(QI h b).get h.next=b:=by rw [ZG,if_pos rfl]
theorem ZI (a b:Nat):ltI (Int.ofNat a) (Int.ofNat b)=decide (a < b):=by
  by_cases h:a < b
  · rw [ZA h,decide_eq_true h]
  · rw [Za (by omega),decide_eq_false h]
def YS (t:Wt):Bool:=!(decide (t.1=[])) && (!(decide (512 < t.1.length)) && (!(decide (4096 < t.2.1.length)) && (!t.2.2 || decide (t.2.1=[]))))
section
variable {KB:Bool→H→Prop}
theorem t39 {t:Wt} {h:H} (hb:h.base≤h.next) (hk:∀ h',Low h.next h h'→KB (YS t) h'):Nb J0 (.agg (wrc t)) h KB:=by
  unfold Nb
  rw [ZZ,QW]
  have lo:=Low.push h.next h (.cells false 48 (wrc t)) (Nat.le_refl _)
  have g:=WU h (.cells false 48 (wrc t))
  have hk:=hk _ lo
  generalize QI h (.cells false 48 (wrc t))=h2 at g hk ⊢
  obtain ⟨key,val,del⟩:=t
  have L1:∀ k,ldS (.ptr h.next 0) h2 k=k (Str.of key):=fun k=>YP g rfl k
  have L2:∀ k,ldS (.ptr h.next 1) h2 k=k (Str.of val):=fun k=>YP g rfl k
  have L3:∀ k,ldB (.ptr h.next 2) h2 k=k del:=fun k=>Wv g rfl k
  have e1:=QdJ key
  have e2:=ZI 512 key.length
  have e3:=ZI 4096 val.length
  have e4:=QdJ val
  unfold YS at hk
  dsimp only at hk
  cases h1:decide (key=[]) <;> cases h2:decide (512 < key.length) <;> cases h3:decide (4096 < val.length) <;> cases h4:decide (val=[]) <;> cases del <;>
    rw [h1] at e1 <;> rw [h2] at e2 <;> rw [h3] at e3 <;> rw [h4] at e4 <;>
    simp only [h1,h2,h3,h4,Bool.not_true,Bool.not_false,Bool.true_and,Bool.false_and,Bool.true_or,Bool.false_or] at hk <;>
    simp only [↓Qq,↓QO,↓Qr,↓QS,↓QF,↓Qm,↓Qa,↓Wk,↓Zc,↓JG,↓Qg,↓L1,↓L2,↓L3,↓e1,↓e2,↓e3,↓e4,Ws,Bool.not_true,Bool.not_false] <;> exact hk
end
end Go.Proofs.YtfgdelkdmdmfgaaDoor
namespace Go.Am
open Go
theorem keqS (a b:List UInt8):Ye .str (.str (Str.of a)) (.str (Str.of b))=some (decide (a=b)):=by
  show some ((Str.of a).beq (Str.of b))=_
  rw [GQ]
def uE (s:List UInt8):AV × AV:=(.str (Str.of s),.agg [])
theorem findU (ks:List (List UInt8)) (s:List UInt8):ZU .str (.str (Str.of s)) (ks.map uE)=some (if s∈ks then some (.agg []) else none):=by
  induction ks with
  | nil=>rfl
  | cons p l ih =>
    rw [List.map_cons]
    unfold ZU
    rw [show Ye .str (.str (Str.of s)) (uE p).1=some (decide (s=p)) from keqS s p,ih]
    by_cases h:s=p
    · subst h;rw [decide_eq_true rfl];simp [uE]
    · rw [decide_eq_false h];simp [h]
theorem insU (ks : List (List UInt8)) (s : List UInt8) : ∃ ks' : List (List UInt8), Gt (.str (Str.of s), .agg []) (ks.map uE) = ks'.map uE ∧ ∀ x, x ∈ ks' ↔ x = s ∨ x ∈ ks := by
  induction ks with
  | nil=>exact ⟨[s],rfl,fun x=>by simp⟩
  | cons p l ih =>
    obtain ⟨ks',e1,e2⟩:=ih
    rw [List.map_cons,XG]
    split
    · exact ⟨s::p::l,rfl,fun x=>by simp⟩
    · refine ⟨p :: ks', by rw [e1]; rfl, fun x => ?_⟩
      simp only [List.mem_cons,e2]
      constructor
      · rintro (h | h | h)
        · exact .inr (.inl h)
        · exact .inl h
        · exact .inr (.inr h)
      · rintro (h | h | h)
        · exact .inr (.inl h)
        · exact .inl h
        · exact .inr (.inr h)
end Go.Am
namespace Go.Proofs.YtfgdelkdmdmfgaaDoor
open Go Go.Am
set_option linter.all false
set_option maxRecDepth 100000
theorem lookU {ks:List (List UInt8)} {s:List UInt8} {n:Nat} {h:H} (g:h.get n=.smap (ks.map uE)):Q5 ty 9 75 true (.map n) (.str (Str.of s)) h=some (.tuple [.agg [],.bool (decide (s∈ks))]):=by
  unfold Q5
  simp only [g]
  unfold Ki
  have k9:(ty 9).kd=.str:=rfl
  have k71:(ty 75).kd.known=true:=rfl
  have z71:JS ty 75=some (.agg []):=rfl
  simp only [k9,k71,Kd.scalar,Bool.and_true,findU]
  by_cases h:s∈ks
  · rw [if_pos h,decide_eq_true h]
  · rw [if_neg h,decide_eq_false h];simp only [z71]
theorem putU {ks:List (List UInt8)} {s:List UInt8} {n:Nat} {h:H} (g:h.get n=.smap (ks.map uE)) (hs:s ∉ ks):∃ ks':List (List UInt8),Y3 ty 9 (.map n) (.str (Str.of s)) (.agg []) h=some (n,.smap (ks'.map uE))∧∀ x,x∈ks' ↔ x=s∨x∈ks:=by
  obtain ⟨ks',e1,e2⟩:=insU ks s
  refine ⟨ks',?_,e2⟩
  unfold Y3
  have k9:(ty 9).kd=.str:=rfl
  simp only [g,k9,Kd.scalar,findU,if_neg hs,e1]
def Gk (l:List Wt):List (List UInt8):=l.map (·.1)
def Y6 (l:List Wt):Int:=if l=[] then Int.ofNat 2 else if 64 < l.length then Int.ofNat 3 else if l.all YS=true then (if (Gk l).Nodup then Int.ofNat 0 else Int.ofNat 9) else Int.ofNat 2
theorem chk_long {l:List Wt} (h:64 < l.length):Y6 l=Int.ofNat 3:=by
  unfold Y6
  rw [if_neg (by rintro rfl;simp at h),if_pos h]
theorem chk_bad {l:List Wt} (h0:l≠[]) (h1:l.length≤64) {i:Nat} (hi:i < l.length) (h:YS l[i]=false):Y6 l=Int.ofNat 2:=by
  unfold Y6
  rw [if_neg h0,if_neg (by omega),if_neg]
  intro ha
  have:=List.all_eq_true.1 ha l[i] (List.getElem_mem hi)
  rw [h] at this;cases this
theorem Qfg {l:List Wt} (h:∀ (j:Nat) (hj:j < l.length),YS l[j]=true):l.all YS=true:=by
  rw [List.all_eq_true]
  intro x hx
  obtain ⟨j,hj,rfl⟩:=List.getElem_of_mem hx
  exact h j hj
theorem chk_dup {l:List Wt} (h0:l≠[]) (h1:l.length≤64) (ha:∀ (j:Nat) (hj:j < l.length),YS l[j]=true) {i k:Nat} (hi:i < l.length) (hk:k < i) (h:l[i].1=l[k].1):Y6 l=Int.ofNat 9:=by
  unfold Y6
  rw [if_neg h0,if_neg (by omega),if_pos (Qfg ha),if_neg]
  intro hn
  have hl:(Gk l).length=l.length:=by simp [Gk]
  have:=List.pairwise_iff_getElem.1 hn k i (by omega) (by omega) hk
  apply this
  simp only [Gk,List.getElem_map]
  rw [h]
theorem chk_ok {l:List Wt} (h0:l≠[]) (h1:l.length≤64) (ha:∀ (j:Nat) (hj:j < l.length),YS l[j]=true) (hn:∀ (i k:Nat) (hi:i < l.length) (hk:k < i),l[i].1≠l[k].1):Y6 l=Int.ofNat 0:=by
  unfold Y6
  rw [if_neg h0,if_neg (by omega),if_pos (Qfg ha),if_pos]
  have hl:(Gk l).length=l.length:=by simp [Gk]
  refine List.pairwise_iff_getElem.2 fun k i hk hi hki=>?_
  simp only [Gk,List.getElem_map]
  exact fun e=>hn i k (by omega) hki e.symm
theorem QcN {h:H} {a b c:AV} {t:Wt} (hb:h.base≤h.next) (k:H→Prop):stN 3 (.ptr h.next 0) (wrc t) (QI h (.cells false 48 [a,b,c])) k=k (QI h (.cells false 48 (wrc t))):=st3_new rfl hb k
theorem ld_wr {h:H} {t:Wt} (k:List AV→Prop):ldN 3 (.ptr h.next 0) (QI h (.cells false 48 (wrc t))) k=k (wrc t):=ld3_new k
section
variable {KI:Int→H→Prop}
theorem t14 {l : List Wt} {v : AV} {h : H} (q : RowP wrc 3 h v l) (hb : h.base ≤ h.next) (hk : ∀ h', Low h.next h h' → KI (Y6 l) h') : s9G J0 (Nb J0) v h KI := by
  unfold s9G
  rw [q.len,Qg,W5]
  by_cases h0:l=[]
  · subst h0
    exact hk h (.refl _ _)
  have hl0:l.length≠0:=fun e=>h0 (List.length_eq_zero_iff.1 e)
  rw [decide_eq_false hl0,Qr,q.len,Qg,ZI]
  by_cases h64:64 < l.length
  · rw [decide_eq_true h64, QO]
    have:=hk h (.refl _ _)
    rw [chk_long h64] at this;exact this
  rw [decide_eq_false h64,Qr,q.len]
  refine YA l.length (fun i x h'=>x=(v,v,.int .i64 (Int.ofNat l.length),.int .i64 (Int.ofNat i),())∧Low h.next h h'∧∀ (j:Nat) (hj:j < l.length),j < i→YS l[j]=true) (by omega) ?_ ?_ ⟨rfl,.refl _ _,fun j hj h=>absurd h (Nat.not_lt_zero _)⟩
  · rintro i x h1 self hi ⟨rfl, lo, ha⟩ hs
    have q1:=q.low lo (Nat.le_refl _)
    have w1:h1.base≤h1.next:=by have:=lo.next;rw [lo.base];omega
    obtain ⟨id,o,p1,p2,_,_⟩:=q1.rd Js hi
    dsimp only
    rw [Qa,Qa,Qg,ZA hi,QO,p1,p2 h1 _ (fun _ _=>rfl),QW]
    rw [QcN w1,ld_wr]
    have l1:Low h.next h (QI h1 (.cells false 48 (wrc l[i]))):=lo.trans (.push _ _ _ lo.next)
    refine t39 (by have:=l1.next;rw [l1.base];omega) fun h2 l2=>?_
    have lo2:=l1.trans (l2.down l1.next)
    rw [Qg]
    cases hf:YS l[i]
    · have := hk h2 lo2
      rw [chk_bad h0 (by omega) hi hf] at this
      exact this
    · rw [Bool.not_true, Qr, Qa, Qo, Ud i (by omega)]
      refine hs _ _ ⟨rfl,lo2,fun j hj hji=>?_⟩
      rcases Nat.lt_or_ge j i with h | h
      · exact ha j hj h
      · obtain rfl : j = i := by omega
        exact hf
  rintro x h1 self ⟨rfl,lo,ha⟩
  have ha:∀ (j:Nat) (hj:j < l.length),YS l[j]=true:=fun j hj=>ha j hj hj
  have n1:=lo.next
  have b1:=lo.base
  dsimp only
  rw [Qa,Qa,Qg,Za (Nat.le_refl _),Qr,QW]
  have lm:=Low.push h1.next h1 (.smap []) (Nat.le_refl _)
  have q1:=(q.low lo (Nat.le_refl _)).low lm (Nat.le_refl _)
  rw [q1.len]
  refine YA l.length (fun i x h'=>x=(.map h1.next,v,.int .i64 (Int.ofNat l.length),.int .i64 (Int.ofNat i),())∧Low h1.next h1 h'∧h1.next < h'.next∧(∃ ks:List (List UInt8),h'.get h1.next=.smap (ks.map uE)∧∀ x,x∈ks ↔ ∃ (j:Nat) (hj:j < l.length),j < i∧l[j].1=x) ∧
      ∀ (j k:Nat) (hj:j < l.length) (hk:k < j),j < i→l[j].1≠l[k].1) (by omega) ?_ ?_ ⟨rfl,lm,Nat.lt_succ_self _,⟨[],WU _ _,fun x=>by simp⟩,fun j k hj hk h=>absurd h (Nat.not_lt_zero _)⟩
  · rintro i x h2 self2 hi ⟨rfl, l2, n2, ⟨ks, g2, hks⟩, hn⟩ hs
    have q2:=(q.low lo (Nat.le_refl _)).low l2 (Nat.le_refl _)
    have w2:h2.base≤h2.next:=by rw [l2.base];omega
    have wb:h2.base≤h1.next:=by rw [l2.base];omega
    obtain ⟨id,o,p1,p2,_,_⟩:=q2.rd Js hi
    dsimp only
    rw [Qa,Qa,Qg,ZA hi,QO,p1,p2 h2 _ (fun _ _=>rfl),QW]
    rw [QcN w2]
    have g3:(QI h2 (.cells false 48 (wrc l[i]))).get h2.next=.cells false 48 (wrc l[i]):=WU _ _
    have l3:Low h2.next h2 (QI h2 (.cells false 48 (wrc l[i]))):=.push _ _ _ (Nat.le_refl _)
    have n3:(QI h2 (.cells false 48 (wrc l[i]))).next=h2.next+1:=rfl
    generalize QI h2 (.cells false 48 (wrc l[i]))=h3 at g3 l3 n3 ⊢
    have gm3:h3.get h1.next=.smap (ks.map uE):=(l3.get _ n2).trans g2
    rw [YP g3 (o:=0) (x:=Str.of l[i].1) rfl,lookU gm3,Qy,Yi]
    show op' (some (AV.agg [])) _
    rw [Qy,Yi]
    show op' (some (AV.bool (decide (l[i].1∈ks)))) _
    rw [Qy,Qm,QW,ZZ,Qae (n:=0) rfl rfl rfl (by rw [l3.base];omega)]
    have l4:Low h3.next h3 (QI h3 (.cells false 75 [])):=.push _ _ _ (Nat.le_refl _)
    have n4:(QI h3 (.cells false 75 [])).next=h3.next+1:=rfl
    generalize QI h3 (.cells false 75 [])=h4 at l4 n4 ⊢
    have l24:Low h2.next h2 h4:=l3.trans (l4.down l3.next)
    have l14:Low h1.next h1 h4:=l2.trans (l24.down l2.next)
    have g4:h4.get h2.next=.cells false 48 (wrc l[i]):=(l4.get _ (by omega)).trans g3
    have gm4:h4.get h1.next=.smap (ks.map uE):=(l4.get _ (by omega)).trans gm3
    by_cases hin:l[i].1∈ks
    · rw [decide_eq_true hin, QO]
      obtain ⟨k,hkl,hki,he⟩:=(hks _).1 hin
      have:=hk h4 (lo.trans (l14.down n1))
      rw [chk_dup h0 (by omega) ha hi hki he.symm] at this
      exact this
    · rw [decide_eq_false hin, Qr, YP g4 (o := 0) (x := Str.of l[i].1) rfl]
      obtain ⟨ks',e1,e2⟩:=putU gm4 hin
      rw [e1,Qy,YX _ (by omega) (by rw [l24.base];exact wb),Qa,Qo,Ud i (by omega)]
      have lp:Low h1.next h4 (Zt h4 h1.next (.smap (ks'.map uE))):=.put _ (by omega) (Nat.le_refl _)
      refine hs _ _ ⟨rfl,l14.trans lp,by rw [WG];omega,⟨ks',by rw [QU _ _ _ (by omega),if_pos rfl],fun x=>?_⟩,fun j k hj hkj hji=>?_⟩
      · rw [e2, hks]
        constructor
        · rintro (rfl | ⟨j, hj, hji, rfl⟩)
          · exact ⟨i,hi,Nat.lt_succ_self _,rfl⟩
          · exact ⟨j,hj,by omega,rfl⟩
        · rintro ⟨j, hj, hji, rfl⟩
          rcases Nat.lt_or_ge j i with h | h
          · exact .inr ⟨j,hj,h,rfl⟩
          · obtain rfl : j = i := by omega
            exact .inl rfl
      · rcases Nat.lt_or_ge j i with h | h
        · exact hn j k hj hkj h
        · obtain rfl : j = i := by omega
          exact fun e=>hin ((hks _).2 ⟨k,by omega,hkj,e.symm⟩)
  · rintro x h2 self2 ⟨rfl, l2, n2, _, hn⟩
    dsimp only
    rw [Qa,Qa,Qg,Za (Nat.le_refl _),Qr]
    have:=hk h2 (lo.trans (l2.down n1))
    rw [chk_ok h0 (by omega) ha fun i k hi hk=>hn i k hi hk hi] at this
    exact this
end
end Go.Proofs.YtfgdelkdmdmfgaaDoor
