import Derived.Test.YtfgdelkdmdmfgaaDoorAmL5
set_option linter.all false
namespace Go.Am
open Go
structure Rec where
  i:Nat
  o:Oper
  b:Bool
  env:List AV
  h:H
  v:AV
def GrdIs (L:List Oper) (o:Oper) (env:List AV) (b:Bool):Prop :=
  match o.guard with
  | none=>b=true
  | some (j,want)=>∃ oj d,L[j]?=some oj∧oj.dst=some d∧((∃ c,Wi .junk env d=.bool c∧b=(c == want))∨(Wi .junk env d=Qb∧b=false))
theorem GrdIs.none {L:List Oper} {o:Oper} {env:List AV} (h:o.guard=none):GrdIs L o env true:=by unfold GrdIs;rw [h]
theorem GrdIs.some {L:List Oper} {o oj:Oper} {env:List AV} {j d:Nat} {want b:Bool} (h:o.guard=some (j,want)) (h1:L[j]?=some oj) (h2:oj.dst=some d) (c:Bool) (h3:Wi .junk env d=.bool c) (h4:b=(c == want)):GrdIs L o env b:=by
  unfold GrdIs;rw [h];exact ⟨oj,d,h1,h2,.inl ⟨c,h3,h4⟩⟩
theorem GrdIs.skip {L:List Oper} {o oj:Oper} {env:List AV} {j d:Nat} {want:Bool} (h:o.guard=Option.some (j,want)) (h1:L[j]?=Option.some oj) (h2:oj.dst=Option.some d) (h3:Wi .junk env d=Qb):GrdIs L o env false:=by
  unfold GrdIs;rw [h];exact ⟨oj,d,h1,h2,.inr ⟨h3,rfl⟩⟩
theorem DP {J : Qh} {L : List Oper} {o : Oper} {env : List AV} {h : H} {run : (AV → H → Prop) → Prop} {k : AV → H → Prop} (e : Ww J L o env h run k) :
    (GrdIs L o env true∧run k)∨(GrdIs L o env false∧k Qb h):=by
  unfold Ww at e
  split at e
  · rename_i hg;exact .inl ⟨GrdIs.none hg,e⟩
  · rename_i j want hg
    split at e
    · rename_i oj hj
      split at e
      · rename_i d hd
        rw [J.jn_ok,NV] at e
        rcases e with ⟨b,hb,e⟩ | ⟨hb,e⟩
        · split at e
          · rw [Yf] at e
            rcases e with ⟨rfl,e⟩ | ⟨rfl,e⟩
            · exact .inl ⟨GrdIs.some hg hj hd true hb rfl,e⟩
            · exact .inr ⟨GrdIs.some hg hj hd false hb rfl,e⟩
          · rw [Yf] at e
            rcases e with ⟨rfl,e⟩ | ⟨rfl,e⟩
            · exact .inr ⟨GrdIs.some hg hj hd true hb rfl,e⟩
            · exact .inl ⟨GrdIs.some hg hj hd false hb rfl,e⟩
        · exact .inr ⟨GrdIs.skip hg hj hd hb,e⟩
      · exact e.elim
    · exact e.elim
theorem guardB_is {J : Qh} {L : List Oper} {o : Oper} {env : List AV} {run : (AV → Prop) → Prop} {k : Bool → AV → Prop} (e : XJ J L o env run k) :
    (GrdIs L o env true∧run (k true))∨(GrdIs L o env false∧k false Qb):=by
  unfold XJ at e
  split at e
  · rename_i hg;exact .inl ⟨GrdIs.none hg,e⟩
  · rename_i j want hg
    split at e
    · rename_i oj hj
      split at e
      · rename_i d hd
        rw [J.jb_ok,NV] at e
        rcases e with ⟨b,hb,e⟩ | ⟨hb,e⟩
        · split at e
          · rw [Yf] at e
            rcases e with ⟨rfl,e⟩ | ⟨rfl,e⟩
            · exact .inl ⟨GrdIs.some hg hj hd true hb rfl,e⟩
            · exact .inr ⟨GrdIs.some hg hj hd false hb rfl,e⟩
          · rw [Yf] at e
            rcases e with ⟨rfl,e⟩ | ⟨rfl,e⟩
            · exact .inr ⟨GrdIs.some hg hj hd true hb rfl,e⟩
            · exact .inl ⟨GrdIs.some hg hj hd false hb rfl,e⟩
        · exact .inr ⟨GrdIs.skip hg hj hd hb,e⟩
      · exact e.elim
    · exact e.elim
theorem GrdIs.wanted {μ:Mu} {ops:Array Oper} {o:Oper} {env:List AV} {b:Bool} {tmps:Array Value} (g:GrdIs ops.toList o env b) (he:∀ d∈YI ops.toList o,(env.getD d .junk).rel μ (tmps.getD d undef)):Region.wanted o (yielded ops tmps)=b:=by
  unfold GrdIs at g
  split at g
  · rename_i hg;subst g;unfold Region.wanted;rw [hg]
  · rename_i j want hg
    obtain ⟨oj,d,h1,h2,⟨c,h3,rfl⟩ | ⟨h3,rfl⟩⟩:=g
    · exact Db hg h1 h2 h3 (he d (by unfold YI;simp [hg,h1,h2]))
    · exact Gb hg h1 h2 h3 (he d (by unfold YI;simp [hg,h1,h2]))
theorem guardSlot_looks {L:List Oper} {o:Oper} {d:Nat} (h:d∈YI L o):d∈looks L o:=by
  unfold looks;rw [List.mem_append];right
  unfold YI at h
  split at h <;> rename_i hg <;> simp only [hg]
  · exact h
  · cases h
structure Trk (T:Ty) (L:List Oper) (π:List Nat) (env0:List AV) (h0:H) (X:Nat→Rec) (q:Nat):Prop where
  idx:∀ p,p < π.length→(X p).i=π.getD p 0∧L[(X p).i]?=some (X p).o
  zenv:(X 0).env=env0
  zh:(X 0).h=h0
  grd:∀ p,p < q→GrdIs L (X p).o (X p).env (X p).b
  skip:∀ p,p < q→(X p).b=false→(X p).v=Qb∧(X (p+1)).h=(X p).h
  run0:∀ p,p < q→(X p).b=true→opC T (X p).o.op=0→opP T (X p).o.op (ev (X p).env)=some (X p).v∧(X (p+1)).h=(X p).h
  run1:∀ p,p < q→(X p).b=true→opC T (X p).o.op=1→opR T (X p).o.op (ev (X p).env) (X p).h=some (X p).v∧(X (p+1)).h=(X p).h
  run2:∀ p,p < q→(X p).b=true→opC T (X p).o.op=2→∃ k f n,opA T (X p).o.op (ev (X p).env)=some (k,f)∧(X p).h.push k=some (n,(X (p+1)).h)∧(X p).v=f n
  env:∀ p,p < q→(X (p+1)).env=put (X p).o.dst (X p).v (X p).env
def RunW (T : Ty) (G : Gam) (L : List Oper) (M : List Nat) : List Nat → List Q2 → List AV → H → (List Q2 → List AV → H → Prop) → Prop
  | [],seen,env,h,k=>k seen env h
  | i :: r, seen, env, h, k => ∃ o, L[i]? = some o ∧ match opC T o.op with
    | 1 => (GrdIs L o env true ∧ ∃ v, opR T o.op (ev env) h = some v ∧ RunW T G L M r (⟨i, o.op, env, v, true⟩ :: seen) (put o.dst v env) h k) ∨
        (GrdIs L o env false∧RunW T G L M r (⟨i,o.op,env,Qb,false⟩::seen) (put o.dst Qb env) h k)
    | 3 => (GrdIs L o env true ∧ ∃ K, opX T G o.op (ev env) h K ∧ ∀ v h', K v h' → Z3 T (M.getD i 0) h' (RunW T G L M r seen (put o.dst v env) h' k) seen) ∨
        (GrdIs L o env false∧Z3 T (M.getD i 0) h (RunW T G L M r seen (put o.dst Qb env) h k) seen)
    | _ => (GrdIs L o env true ∧ ∃ K, opX T G o.op (ev env) h K ∧ ∀ v h', K v h' → RunW T G L M r seen (put o.dst v env) h' k) ∨
        (GrdIs L o env false∧RunW T G L M r seen (put o.dst Qb env) h k)
theorem Zs {T:Ty} {m:Nat} {h:H} {k k':Prop} (hk:k→k'):∀ {l:List Q2},Z3 T m h k l→Z3 T m h k' l
  | [],e=>hk e
  | c :: r, e => by
    unfold Z3 at e ⊢
    split at e
    · rename_i hc;exact Zs hk e
    · rename_i hc
      rw [QN] at e ⊢
      exact ⟨e.1,Zs hk e.2⟩
section
variable {T:Ty} {G:Gam}
theorem opX_1 {o:Op} {ρ:Operand→AV} {h:H} {K:AV→H→Prop} (e:opX T G o ρ h K) (c:opC T o=1):∃ v,opR T o ρ h=some v∧K v h:=by
  unfold opX at e;rw [c] at e;simp only at e
  split at e
  · exact ⟨_,‹_›,e⟩
  · exact e.elim
theorem Yx {L : List Oper} {M : List Nat} {k : List Q2 → List AV → H → Prop} : ∀ {r : List Nat} {seen : List Q2} {env : List AV} {h : H}, QB T G L M r seen env h k → RunW T G L M r seen env h k
  | [],_,_,_,e=>e
  | i :: r, seen, env, h, e => by
    unfold QB at e
    split at e
    · exact e.elim
    · rename_i o ho
      refine ⟨o,ho,?_⟩
      split at e
      · rename_i c1
        rw [c1]
        rcases guardB_is e with ⟨g,e⟩ | ⟨g,e⟩
        · obtain ⟨K, e1, e2⟩ := GD e
          obtain ⟨v,hv,hK⟩:=opX_1 e1 c1
          have:=e2 _ _ hK
          simp only [WY] at this
          exact .inl ⟨g,v,hv,Yx this⟩
        · rw [WY] at e
          exact .inr ⟨g,Yx e⟩
      · rename_i c3
        rw [c3]
        rcases DP e with ⟨g,e⟩ | ⟨g,e⟩
        · obtain ⟨K, e1, e2⟩ := GD e
          refine .inl ⟨g,K,e1,fun v h' hK=>?_⟩
          have:=e2 _ _ hK
          simp only [WY] at this
          exact Zs Yx this
        · rw [WY] at e
          exact .inr ⟨g,Zs Yx e⟩
      · rename_i n1 n3
        split
        · rename_i c;exact absurd c n1
        · rename_i c;exact absurd c n3
        · rcases DP e with ⟨g, e⟩ | ⟨g, e⟩
          · obtain ⟨K, e1, e2⟩ := GD e
            refine .inl ⟨g,K,e1,fun v h' hK=>?_⟩
            have:=e2 _ _ hK
            simp only [WY] at this
            exact Yx this
          · rw [WY] at e
            exact .inr ⟨g,Yx e⟩
theorem RunW.mono {L:List Oper} {M:List Nat} {k k':List Q2→List AV→H→Prop} (hk:∀ s e h,k s e h→k' s e h):∀ {r:List Nat} {seen:List Q2} {env:List AV} {h:H},RunW T G L M r seen env h k→RunW T G L M r seen env h k'
  | [],_,_,_,e=>hk _ _ _ e
  | i :: r, seen, env, h, e => by
    unfold RunW at e ⊢
    obtain ⟨o,ho,e⟩:=e
    refine ⟨o,ho,?_⟩
    split at e
    · rcases e with ⟨g, v, e1, e2⟩ | ⟨g, e⟩
      · exact .inl ⟨g,v,e1,e2.mono hk⟩
      · exact .inr ⟨g,RunW.mono hk e⟩
    · rcases e with ⟨g, K, e1, e2⟩ | ⟨g, e⟩
      · exact .inl ⟨g,K,e1,fun v h' q=>Zs (RunW.mono hk) (e2 v h' q)⟩
      · exact .inr ⟨g,Zs (RunW.mono hk) e⟩
    · rcases e with ⟨g, K, e1, e2⟩ | ⟨g, e⟩
      · exact .inl ⟨g,K,e1,fun v h' q=>(e2 v h' q).mono hk⟩
      · exact .inr ⟨g,RunW.mono hk e⟩
theorem RunW.app {L:List Oper} {M:List Nat} {k:List Q2→List AV→H→Prop} {b:List Nat}:∀ {r:List Nat} {seen:List Q2} {env:List AV} {h:H},RunW T G L M r seen env h (fun s e h=>RunW T G L M b s e h k)→RunW T G L M (r++b) seen env h k
  | [],_,_,_,e=>e
  | i :: r, seen, env, h, e => by
    rw [List.cons_append]
    unfold RunW at e ⊢
    obtain ⟨o,ho,e⟩:=e
    refine ⟨o,ho,?_⟩
    split at e
    · rcases e with ⟨g, v, e1, e2⟩ | ⟨g, e⟩
      · exact .inl ⟨g,v,e1,e2.app⟩
      · exact .inr ⟨g,RunW.app e⟩
    · rcases e with ⟨g, K, e1, e2⟩ | ⟨g, e⟩
      · exact .inl ⟨g,K,e1,fun v h' q=>Zs RunW.app (e2 v h' q)⟩
      · exact .inr ⟨g,Zs RunW.app e⟩
    · rcases e with ⟨g, K, e1, e2⟩ | ⟨g, e⟩
      · exact .inl ⟨g,K,e1,fun v h' q=>(e2 v h' q).app⟩
      · exact .inr ⟨g,RunW.app e⟩
end
def Qb6 (T:Ty) (G:Gam) (L:List Oper) (M π:List Nat) (N:Nat) (X:Nat→Rec) (q:Nat) (k:List Q2→List AV→H→Prop):Prop :=
  ∃ seen,RunW T G L M ((π.take N).drop q) seen (X q).env (X q).h k∧∀ p,p < q→(X p).b=true→opC T (X p).o.op=1→(⟨(X p).i,(X p).o.op,(X p).env,(X p).v,true⟩:Q2)∈seen
def US (X:Nat→Rec) (q:Nat) (b:Bool) (v:AV) (env':List AV) (h':H):Nat→Rec:=fun p=>if p=q then { X q with b:=b,v:=v } else if p=q+1 then { X (q+1) with env:=env',h:=h' } else X p
section
variable {X:Nat→Rec} {q:Nat} {b:Bool} {v:AV} {env':List AV} {h':H}
theorem VK {p:Nat} (h:p < q):US X q b v env' h' p=X p:=by unfold US;rw [if_neg (by omega),if_neg (by omega)]
theorem Wj:US X q b v env' h' q={ X q with b:=b,v:=v }:=if_pos rfl
theorem YJ:US X q b v env' h' (q+1)={ X (q+1) with env:=env',h:=h' }:=by unfold US;rw [if_neg (by omega),if_pos rfl]
theorem QaK (p:Nat):(US X q b v env' h' p).i=(X p).i:=by
  unfold US;split
  · rename_i e;rw [e]
  · split
    · rename_i e;rw [e]
    · rfl
theorem XP (p:Nat):(US X q b v env' h' p).o=(X p).o:=by
  unfold US;split
  · rename_i e;rw [e]
  · split
    · rename_i e;rw [e]
    · rfl
theorem QbN {p:Nat} (h:p≤q):(US X q b v env' h' p).env=(X p).env:=by
  rcases Nat.lt_or_ge p q with hl | hg
  · rw [VK hl]
  · have : p = q := by omega
    subst this;rw [Wj]
theorem QaL {p:Nat} (h:p≤q):(US X q b v env' h' p).h=(X p).h:=by
  rcases Nat.lt_or_ge p q with hl | hg
  · rw [VK hl]
  · have : p = q := by omega
    subst this;rw [Wj]
end
theorem Trk.ext {T:Ty} {L:List Oper} {π:List Nat} {env0:List AV} {h0:H} {X:Nat→Rec} {q:Nat} (tr:Trk T L π env0 h0 X q) {b:Bool} {v:AV} {h':H}
    (hg:GrdIs L (X q).o (X q).env b) (hs:b=false→v=Qb∧h'=(X q).h)
    (h0':b=true→opC T (X q).o.op=0→opP T (X q).o.op (ev (X q).env)=some v∧h'=(X q).h)
    (h1':b=true→opC T (X q).o.op=1→opR T (X q).o.op (ev (X q).env) (X q).h=some v∧h'=(X q).h)
    (h2':b=true→opC T (X q).o.op=2→∃ k f n,opA T (X q).o.op (ev (X q).env)=some (k,f)∧(X q).h.push k=some (n,h')∧v=f n) :
    Trk T L π env0 h0 (US X q b v (put (X q).o.dst v (X q).env) h') (q+1):=by
  have old:∀ {p},p < q→US X q b v (put (X q).o.dst v (X q).env) h' p=X p∧(US X q b v (put (X q).o.dst v (X q).env) h' (p+1)).h=(X (p+1)).h∧(US X q b v (put (X q).o.dst v (X q).env) h' (p+1)).env=(X (p+1)).env:=fun hp=>⟨VK hp,QaL (by omega),QbN (by omega)⟩
  have cs:∀ {p},p < q+1→p < q∨p=q:=fun h=>by omega
  refine ⟨fun p hp=>by rw [QaK,XP];exact tr.idx p hp,by rw [QbN (Nat.zero_le _)];exact tr.zenv,by rw [QaL (Nat.zero_le _)];exact tr.zh,fun p hp=>?_,fun p hp=>?_,fun p hp=>?_,fun p hp=>?_,fun p hp=>?_,fun p hp=>?_⟩
  all_goals rcases cs hp with hp | rfl
  · rw [(old hp).1];exact tr.grd p hp
  · rw [Wj];exact hg
  · rw [(old hp).1,(old hp).2.1];exact tr.skip p hp
  · rw [Wj,YJ];exact hs
  · rw [(old hp).1,(old hp).2.1];exact tr.run0 p hp
  · rw [Wj,YJ];exact h0'
  · rw [(old hp).1,(old hp).2.1];exact tr.run1 p hp
  · rw [Wj,YJ];exact h1'
  · rw [(old hp).1,(old hp).2.1];exact tr.run2 p hp
  · rw [Wj,YJ];exact h2'
  · rw [(old hp).1,(old hp).2.2];exact tr.env p hp
  · rw [Wj,YJ]
structure Ord (T:Ty) (L:List Oper) (M π:List Nat):Prop where
  len:π.length=L.length
  pos:∀ p,p < L.length→π.idxOf (π.getD p 0)=p∧π.getD p 0 < L.length
  lt:∀ i,i < L.length→π.idxOf i < L.length
  dep:∀ i o,L[i]?=some o→∀ d∈UC o,π.idxOf d < π.idxOf i
  pair:∀ i j oi oj,L[i]?=some oi→L[j]?=some oj→Nm T L M π i j oi oj=true
theorem U5 {T:Ty} {L:List Oper} {M π:List Nat} (h:YH T L M π=true):Ord T L M π:=by
  unfold YH at h
  simp only [Bool.and_eq_true,beq_iff_eq,List.all_eq_true,List.mem_range] at h
  obtain ⟨⟨h1,h2⟩,h3⟩:=h
  have h3':∀ i oi,L[i]?=some oi→(π.idxOf i < L.length)∧(∀ d∈UC oi,π.idxOf d < π.idxOf i)∧∀ j oj,L[j]?=some oj→Nm T L M π i j oi oj=true:=by
    intro i oi hi
    have:=h3 i (List.getElem?_eq_some_iff.1 hi).1
    rw [hi] at this
    simp only [Bool.and_eq_true,QH,List.all_eq_true,List.mem_range] at this
    refine ⟨this.1.1,fun d hd=>this.1.2 d hd,fun j oj hj=>?_⟩
    have:=this.2 j (List.getElem?_eq_some_iff.1 hj).1
    rw [hj] at this;exact this
  refine ⟨h1,fun p hp=>?_,fun i hi=>(h3' i _ (List.getElem?_eq_getElem hi)).1,fun i o hi=>(h3' i o hi).2.1,fun i j oi oj hi hj=>(h3' i oi hi).2.2 j oj hj⟩
  have:=h2 p hp
  rw [QH] at this
  exact this
theorem Ord.inv {T:Ty} {L:List Oper} {M π:List Nat} (h:Ord T L M π) {i:Nat} (hi:i < L.length):π.getD (π.idxOf i) 0=i:=by
  have h1:=h.lt i hi
  have h2:π.idxOf i < π.length:=by rw [h.len];exact h1
  rw [List.getD_eq_getElem?_getD,List.getElem?_eq_getElem h2]
  simp [List.getElem_idxOf]
def QaX (L:List Oper) (D:Nat→Prop):Prop:=∀ (x:Nat) ox d,D x→L[x]?=some ox→d∈UC ox→D d
theorem Qcg (T:Ty) (o:Op):opC T o=0∨opC T o=1∨opC T o=2∨opC T o=3:=by
  have hb:∀ b,biC b=0∨biC b=1∨biC b=2∨biC b=3:=fun b=>by unfold biC;split <;> simp
  unfold opC
  repeat' split
  all_goals first | exact hb _ | simp
theorem DD {h h':H} {k:Blk} {n:Nat} (wf:h.Wf) (hp:h.push k=some (n,h')) {id:Nat} (hl:(h.get id).live=true):h'.get id=h.get id:=by
  obtain ⟨_,_,_,_,hg⟩:=H.push_some hp wf
  rw [hg,if_neg];have:=H.lt_of_live hl;omega
theorem N0 {h h':H} {k:Blk} {n g:Nat} {cs:List AV} (wf:h.Wf) (hp:h.push k=some (n,h')) (e:Ul h g=some cs):Ul h' g=some cs:=by
  unfold Ul at e
  split at e
  · rename_i h1 h2
    injection e with e;subst e
    have hb:=(H.push_some hp wf).2.2.1
    unfold Ul
    rw [hb,h1,DD wf hp (by rw [h2];rfl),h2]
  · cases e
theorem opR_push {T : Ty} {o : Op} {ρ : Operand → AV} {h h' : H} {k : Blk} {n : Nat} {v : AV} (wf : h.Wf) (hp : h.push k = some (n, h')) (e : opR T o ρ h = some v) : opR T o ρ h' = some v := by
  have key:∀ {id:Nat},(h.get id).live=true→h'.get id=h.get id:=fun hl=>DD wf hp hl
  unfold opR at e ⊢
  split at e
  case h_1 t a=>
    split at e
    · skip
      split at e
      · skip
        unfold Y7 at e ⊢
        split at e
        · skip
          split at e
          · rename_i hc;rw [key (by rw [hc];rfl),hc];exact e
          · cases e
        · split at e
          · rename_i hc;rw [N0 wf hp hc];exact e
          · cases e
        · cases e
      · skip
        unfold Zn at e ⊢
        split at e
        · skip
          split at e
          · rename_i hc;rw [key (by rw [hc];rfl),hc];exact e
          · rename_i hc;rw [key (by rw [hc];rfl),hc];exact e
          · cases e
        · split at e
          · rename_i hc;rw [N0 wf hp hc];exact e
          · cases e
        · cases e
    · cases e
  case h_2 s d x=>
    split at e
    · skip
      split at e
      · skip
        unfold UH at e ⊢
        split at e
        · exact e
        · skip
          split at e
          · rename_i hc;rw [key (by rw [hc];rfl),hc];exact e
          · cases e
        · cases e
      · cases e
    · split at e
      · skip
        unfold aToU at e ⊢
        split at e
        · exact e
        · split at e
          · rename_i hc;rw [key (by rw [hc];rfl),hc];exact e
          · rename_i hc;rw [key (by rw [hc];rfl),hc];exact e
          · cases e
        · cases e
      · cases e
    · split at e
      · skip
        unfold aOfU at e ⊢
        split at e
        · exact e
        · split at e
          · rename_i hc;rw [key (by rw [hc];rfl),hc];exact e
          · cases e
        · cases e
      · cases e
    · cases e
  case h_3 t x i ok=>
    split at e
    · unfold Q5 at e ⊢
      split at e
      · exact e
      · split at e
        · rename_i hc;rw [key (by rw [hc];rfl),hc];exact e
        · rename_i hc;rw [key (by rw [hc];rfl),hc];exact e
        · cases e
      · cases e
    · cases e
  case h_4 it=>
    unfold VU at e ⊢
    split at e
    · split at e
      · rename_i hc
        rw [key (by rw [hc];rfl),hc]
        simp only
        split at e
        · rename_i hc2;rw [key (by rw [hc2];rfl),hc2];exact e
        · cases e
      · cases e
    · cases e
  case h_5 args argTypes=>
    split at e
    · split at e
      · unfold JI at e ⊢
        split at e
        · exact e
        · split at e
          · rename_i hc;rw [key (by rw [hc];rfl),hc];exact e
          · rename_i hc;rw [key (by rw [hc];rfl),hc];exact e
          · cases e
        · cases e
      · cases e
    · cases e
  case h_6=>cases e
end Go.Am
namespace Go.Am
open Go
def TmpOk (env0:List AV) (X:Nat→Rec) (D:Nat→Prop) (q:Nat) (μ:Mu) (tmps:Array Value) (t:Nat):Prop :=
  (∃ p,p < q∧D (X p).i∧(X p).o.dst=some t∧(∀ p',p < p'→p' < q→D (X p').i→(X p').o.dst≠some t)∧(t < env0.length→(X p).v.rel μ (tmps.getD t undef))) ∨
  ((∀ p,p < q→D (X p).i→(X p).o.dst≠some t)∧(env0.getD t .junk).rel μ (tmps.getD t undef))
structure RInv (T:Ty) (n:Nat) (π:List Nat) (env0:List AV) (h0:H) (X:Nat→Rec) (μ0:Mu) (w0:World) (a0:Act) (D:Nat→Prop) (q:Nat) (a:Act) (w:World) (μ:Mu):Prop where
  qn:q≤n
  ws:∀ p,p < q→opC T (X p).o.op=3→D (X p).i
  dq:∀ i,i < n→D i→π.idxOf i < q
  post:Post μ0 h0 w0 μ (X q).h w
  defers:a.defers=a0.defers
  size:env0.length≤a.tmps.size
  tmp:∀ t,TmpOk env0 X D q μ a.tmps t
  mono:∀ p p',p≤p'→p'≤q→(X p).h.next≤(X p').h.next
  load:∀ p,p < q→¬ D (X p).i→(X p).b=true→opC T (X p).o.op=1→opR T (X p).o.op (ev (X p).env) (X q).h=some (X p).v
  made:∀ p,p < q→¬ D (X p).i→(X p).b=true→opC T (X p).o.op=2→∃ k f,opA T (X p).o.op (ev (X p).env)=some (k,f)∧(X p).v=f (X p).h.next ∧
    (X q).h.get (X p).h.next=k∧μ (X p).h.next=none∧(X p).h.next < (X q).h.next∧h0.next≤(X p).h.next∧(X (p+1)).h.next=(X p).h.next+1
theorem TmpOk.congr {env0:List AV} {X Y:Nat→Rec} {D:Nat→Prop} {q:Nat} {μ:Mu} {tmps:Array Value} {t:Nat} (h:TmpOk env0 X D q μ tmps t) (hXY:∀ p,p < q→Y p=X p):TmpOk env0 Y D q μ tmps t:=by
  rcases h with ⟨p,h1,h2,h3,h4,h5⟩ | ⟨h1,h2⟩
  · exact .inl ⟨p,h1,by rw [hXY p h1];exact h2,by rw [hXY p h1];exact h3,fun p' a b c=>by rw [hXY p' b] at c ⊢;exact h4 p' a b c,by rw [hXY p h1];exact h5⟩
  · exact .inr ⟨fun p a c=>by rw [hXY p a] at c ⊢;exact h1 p a c,h2⟩
theorem RInv.congr {T:Ty} {n:Nat} {π:List Nat} {env0:List AV} {h0:H} {X Y:Nat→Rec} {μ0:Mu} {w0:World} {a0:Act} {D:Nat→Prop} {q:Nat} {a:Act} {w:World} {μ:Mu} (iv:RInv T n π env0 h0 X μ0 w0 a0 D q a w μ)
    (hXY:∀ p,p < q→Y p=X p) (hh:(Y q).h=(X q).h):RInv T n π env0 h0 Y μ0 w0 a0 D q a w μ:=by
  have hhp:∀ p,p≤q→(Y p).h=(X p).h:=fun p hp=>by
    rcases Nat.lt_or_ge p q with h | h
    · rw [hXY p h]
    · have : p = q := by omega
      subst this;exact hh
  refine ⟨iv.qn,fun p hp hc=>?_,iv.dq,by rw [hh];exact iv.post,iv.defers,iv.size,fun t=>(iv.tmp t).congr hXY,fun p p' h1 h2=>?_,fun p hp hd hb hc=>?_,fun p hp hd hb hc=>?_⟩
  · rw [hXY p hp] at hc ⊢;exact iv.ws p hp hc
  · rw [hhp p (by omega),hhp p' h2];exact iv.mono p p' h1 h2
  · rw [hXY p hp] at hd hb hc ⊢;rw [hh];exact iv.load p hp hd hb hc
  · rw [hhp (p+1) (by omega),hXY p hp] at *;rw [hh];exact iv.made p hp hd hb hc
theorem post_push_abs {μ0 μ:Mu} {h0 h h':H} {w0 w:World} {n:Nat} {k:Blk} (hp:Post μ0 h0 w0 μ h w) (e:h.push k=some (n,h')):Post μ0 h0 w0 μ h' w:=by
  obtain ⟨rfl,e1,e2,wf,hg⟩:=H.push_some e hp.rel.wf
  have lt:∀ id p,μ id=some p→id≠h.next:=fun id p hm=>by have:=(hp.rel.dom id p.1 p.2 hm).1;omega
  refine ⟨hp.ext,⟨wf,fun id b d hm=>?_,fun i j b d e hi hj hli hlj hbj=>?_,fun id b d hm=>?_,hp.rel.cnt,hp.rel.glb.step e2 (fun id hi=>by have:=hp.rel.wf.low;rw [hg,if_neg (by omega)]) fun _ _=>rfl⟩,hp.frame,⟨by have:=hp.grows.next;omega,e2.trans hp.grows.base,fun id hi hm=>?_,fun id hi=>?_,fun id hi hl=>?_⟩,fun id b d hi hm hb hl=>?_⟩
  · have:=hp.rel.dom id b d hm;exact ⟨by omega,this.2⟩
  · rw [hg, if_neg (lt i _ hi)] at hli; rw [hg, if_neg (lt j _ hj)] at hlj
    exact hp.rel.inj i j b d e hi hj hli hlj (by omega)
  · rw [hg,if_neg (lt id _ hm),e2];exact hp.rel.blk id b d hm
  · have:=hp.grows.next;rw [hg,if_neg (by omega)];exact hp.grows.keep id hi hm
  · have:=hp.rel.wf.low;rw [hg,if_neg (by have:=hp.grows.base;omega)];exact hp.grows.low id hi
  · have:=hp.grows.next;rw [hg,if_neg (by omega)] at hl;exact hp.grows.dead id hi hl
  · rw [hg,if_neg (lt id _ hm)] at hl;exact hp.fresh id b d hi hm hb hl
theorem post_late {μ0 μ:Mu} {h0 h:H} {w0 w w':World} {id s:Nat} {cs:Array Value} {t:TypeId} {fr:Nat × Nat} (hp:Post μ0 h0 w0 μ h w) (hid:μ id=none) (hlt:id < h.next) (hge:h0.next≤id)
    (h1:w'.os=w.os) (h2:w'.tape=w.tape) (h3:w'.output=w.output) (hh:w'.heap=w.heap.push (.cells cs t fr)) (hs:cs.size=s)
    (hk:BlkRel (upd μ id (w.heap.size,0) s) w' w.heap.size 0 (h.get id)):Post μ0 h0 w0 (upd μ id (w.heap.size,0) s) h w':=by
  have hlow:∀ b,b < w.heap.size→w'.heap[b]?=w.heap[b]?:=fun b hb=>by rw [hh,Array.getElem?_push,if_neg (by omega)]
  have hle:Le μ (upd μ id (w.heap.size,0) s):=Un _ _ fun p hm=>by rw [hid] at hm;cases hm
  have hsz:=hp.frame.size
  refine ⟨fun i hi=>?_,⟨hp.rel.wf,fun i b d hm=>?_,fun i j b d e hi hj hli hlj hbj=>?_,fun i b d hm=>?_,fun i b d ccs t' fr' hm hw=>?_,fun g t cs h1 h2=>by have q:=hp.rel.glb g t cs h1 h2;rw [ZF _ _ _ (fun e=>by subst e;rw [hid] at q;cases q)];exact q⟩,
    ⟨h1.trans hp.frame.os,h2.trans hp.frame.tape,h3.trans hp.frame.output,by rw [hh];simp;omega,fun b hb hn=>?_⟩,hp.grows,fun i b d hi hm hb hl=>?_⟩
  · have := hp.ext i hi
    exact ⟨by rw [ZF _ _ _ (by omega)];exact this.1,by rw [Wq _ _ _ (by omega)];exact this.2⟩
  · by_cases e : i = id
    · subst e; rw [Ze] at hm; injection hm with hm; injection hm with eb ed; subst eb ed
      exact ⟨hlt,by rw [hh];simp⟩
    · rw [ZF _ _ _ e] at hm;have:=hp.rel.dom i b d hm;exact ⟨this.1,by rw [hh];simp;omega⟩
  · have old : ∀ i, i ≠ id → ∀ b d, upd μ id (w.heap.size, 0) s i = some (b, d) → b < w.heap.size := fun i hi b d hm => by
      rw [ZF _ _ _ hi] at hm;exact (hp.rel.dom i b d hm).2
    by_cases e1:i=id <;> by_cases e2:j=id
    · rw [e1,e2]
    · subst e1;rw [Ze] at hi;injection hi with hi;injection hi with hb;have:=old j e2 b e hj;omega
    · subst e2;rw [Ze] at hj;injection hj with hj;injection hj with hb;have:=old i e1 b d hi;omega
    · rw [ZF _ _ _ e1] at hi; rw [ZF _ _ _ e2] at hj
      exact hp.rel.inj i j b d e hi hj hli hlj hbj
  · by_cases e : i = id
    · subst e;rw [Ze] at hm;injection hm with hm;injection hm with eb ed;subst eb ed;exact hk.any
    · rw [ZF _ _ _ e] at hm
      exact (hp.rel.blk i b d hm).mono hle fun _=>hlow b (hp.rel.dom i b d hm).2
  · by_cases e : i = id
    · subst e; rw [Ze] at hm; injection hm with hm; injection hm with eb ed; subst eb ed
      rw [UW];rw [hh] at hw;simp at hw;rw [← hw.1];exact hs
    · rw [ZF _ _ _ e] at hm; rw [Wq _ _ _ e]
      exact hp.rel.cnt i b d ccs t' fr' hm (by rw [← hlow b (hp.rel.dom i b d hm).2];exact hw)
  · rw [hlow b (by omega)];exact hp.frame.block b hb hn
  · by_cases e : i = id
    · subst e;rw [Ze] at hm;injection hm with hm;injection hm with eb ed;omega
    · rw [ZF _ _ _ e] at hm;exact hp.fresh i b d hi hm hb hl
section
variable {P:Program} {T:Ty} {G:Gam} {L:List Oper} {M π:List Nat} {env0:List AV} {h0:H}
variable {μ0:Mu} {w0:World} {a0:Act}
theorem TmpOk.next {X:Nat→Rec} {D:Nat→Prop} {q:Nat} {μ:Mu} {tmps:Array Value} {t:Nat} (h:TmpOk env0 X D q μ tmps t) (hq:¬ D (X q).i):TmpOk env0 X D (q+1) μ tmps t:=by
  rcases h with ⟨p,h1,h2,h3,h4,h5⟩ | ⟨h1,h2⟩
  · refine .inl ⟨p, by omega, h2, h3, fun p' hp hp' hd => ?_, h5⟩
    rcases Nat.lt_or_ge p' q with hlt | hge
    · exact h4 p' hp hlt hd
    · have : p' = q := by omega
      subst this;exact absurd hd hq
  · refine .inr ⟨fun p hp hd => ?_, h2⟩
    rcases Nat.lt_or_ge p q with hlt | hge
    · exact h1 p hlt hd
    · have : p = q := by omega
      subst this;exact absurd hd hq
variable {X:Nat→Rec} {r:Nat} (tr:Trk T L π env0 h0 X r) (od:Ord T L M π)
include tr od in
theorem ZD {p:Nat} (hp:p < L.length):(X p).i < L.length∧π.idxOf (X p).i=p:=by
  have h1:=(tr.idx p (by rw [od.len];exact hp)).1
  have h2:=od.pos p hp
  rw [← h1] at h2;exact ⟨h2.2,h2.1⟩
include tr od in
theorem at_pos {i:Nat} (hi:i < L.length):(X (π.idxOf i)).i=i:=by
  have h1:=(tr.idx (π.idxOf i) (by rw [od.len];exact od.lt i hi)).1
  rw [h1,od.inv hi]
include tr od in
theorem GJ {p p':Nat} (hp:p < L.length) (hp':p' < L.length) (h:(X p).i=(X p').i):p=p':=by
  rw [← (ZD tr od hp).2,← (ZD tr od hp').2,h]
theorem RInv.adv {D : Nat → Prop} {q : Nat} {a : Act} {w : World} {μ : Mu} (tr' : Trk T L π env0 h0 X (q + 1)) (od : Ord T L M π) (iv : RInv T L.length π env0 h0 X μ0 w0 a0 D q a w μ) (hq : q < L.length) (hc : opC T (X q).o.op ≠ 3) : RInv T L.length π env0 h0 X μ0 w0 a0 D (q + 1) a w μ := by
  have hqp:=ZD tr' od hq
  have hnD:¬ D (X q).i:=fun h=>by have:=iv.dq _ hqp.1 h;omega
  have wf:=iv.post.rel.wf
  have hqq:q < q+1:=by omega
  have cases3:(X (q+1)).h=(X q).h∨∃ k f n,opA T (X q).o.op (ev (X q).env)=some (k,f)∧(X q).h.push k=some (n,(X (q+1)).h)∧(X q).v=f n∧(X q).b=true∧opC T (X q).o.op=2:=by
    cases hb:(X q).b with
    | false=>exact .inl (tr'.skip q hqq hb).2
    | true =>
      rcases Qcg T (X q).o.op with c | c | c | c
      · exact .inl (tr'.run0 q hqq hb c).2
      · exact .inl (tr'.run1 q hqq hb c).2
      · obtain ⟨k, f, n, h1, h2, h3⟩ := tr'.run2 q hqq hb c
        exact .inr ⟨k,f,n,h1,h2,h3,rfl,c⟩
      · exact absurd c hc
  have ws:∀ p,p < q+1→opC T (X p).o.op=3→D (X p).i:=fun p hp h3=>by
    rcases Nat.lt_or_ge p q with hlt | hge
    · exact iv.ws p hlt h3
    · have : p = q := by omega
      subst this;exact absurd h3 hc
  have dq:∀ i,i < L.length→D i→π.idxOf i < q+1:=fun i hi hd=>by have:=iv.dq i hi hd;omega
  rcases cases3 with hsame | ⟨k,f,n,h1,h2,h3,hb,c2⟩
  · refine ⟨hq, ws, dq, by rw [hsame]; exact iv.post, iv.defers, iv.size, fun t => (iv.tmp t).next hnD, fun p p' hp hp' => ?_, fun p hp hd hb hc1 => ?_, fun p hp hd hb hc2 => ?_⟩
    · rcases Nat.lt_or_ge p' (q + 1) with hlt | hge
      · exact iv.mono p p' hp (by omega)
      · have : p' = q + 1 := by omega
        subst this
        rw [hsame]
        rcases Nat.lt_or_ge p (q+1) with hlt | hge
        · exact iv.mono p q (by omega) (Nat.le_refl _)
        · have : p = q + 1 := by omega
          subst this;rw [hsame];exact Nat.le_refl _
    · rw [hsame]
      rcases Nat.lt_or_ge p q with hlt | hge
      · exact iv.load p hlt hd hb hc1
      · have : p = q := by omega
        subst this;exact (tr'.run1 p hqq hb hc1).1
    · rw [hsame]
      rcases Nat.lt_or_ge p q with hlt | hge
      · exact iv.made p hlt hd hb hc2
      · have : p = q := by omega
        subst this
        obtain ⟨k,f,n,h1,h2,h3⟩:=tr'.run2 p hqq hb hc2
        obtain ⟨_,e1,_,_,_⟩:=H.push_some h2 wf
        rw [hsame] at e1;omega
  · obtain ⟨rfl, e1, e2, wf', hg⟩ := H.push_some h2 wf
    refine ⟨hq,ws,dq,post_push_abs iv.post h2,iv.defers,iv.size,fun t=>(iv.tmp t).next hnD,fun p p' hp hp'=>?_,fun p hp hd hb hc1=>?_,fun p hp hd hb hc2=>?_⟩
    · rcases Nat.lt_or_ge p' (q + 1) with hlt | hge
      · exact iv.mono p p' hp (by omega)
      · have : p' = q + 1 := by omega
        subst this
        rcases Nat.lt_or_ge p (q+1) with hlt | hge
        · have:=iv.mono p q (by omega) (Nat.le_refl _);omega
        · have : p = q + 1 := by omega
          subst this;exact Nat.le_refl _
    · rcases Nat.lt_or_ge p q with hlt | hge
      · exact opR_push wf h2 (iv.load p hlt hd hb hc1)
      · have : p = q := by omega
        subst this;rw [c2] at hc1;cases hc1
    · rcases Nat.lt_or_ge p q with hlt | hge
      · obtain ⟨k', f', m1, m2, m3, m4, m5, m6, m7⟩ := iv.made p hlt hd hb hc2
        exact ⟨k',f',m1,m2,by rw [hg,if_neg (by omega)];exact m3,m4,by omega,m6,m7⟩
      · have : p = q := by omega
        subst this
        refine ⟨k,f,h1,h3,by rw [hg,if_pos rfl],?_,by omega,by have:=iv.mono 0 p (Nat.zero_le _) (Nat.le_refl _);rw [tr'.zh] at this;exact this,e1⟩
        cases hm:μ (X p).h.next with
        | none=>rfl
        | some z=>exact absurd (iv.post.rel.dom _ z.1 z.2 hm).1 (by omega)
end
def QcC (X Y:Nat→Rec):Prop:=∀ p,(Y p).i=(X p).i∧(Y p).o=(X p).o
theorem QdA {π:List Nat} {q:Nat} (hq:q < π.length):π.drop q=π.getD q 0::π.drop (q+1):=by
  rw [List.drop_eq_getElem_cons hq];simp [hq]
theorem canon_step {T : Ty} {G : Gam} {L : List Oper} {M π : List Nat} {N : Nat} {env0 : List AV} {h0 : H} {X : Nat → Rec} {q : Nat} {k : List Q2 → List AV → H → Prop} (tr : Trk T L π env0 h0 X q) (od : Ord T L M π) (pd : Qb6 T G L M π N X q k) (hN : N ≤ L.length) (hq : q < N) (hc : opC T (X q).o.op ≠ 3) :
    ∃ Y,Trk T L π env0 h0 Y (q+1)∧Qb6 T G L M π N Y (q+1) k∧QcC X Y∧(∀ p,p < q→Y p=X p)∧(Y q).h=(X q).h:=by
  obtain ⟨seen,hrun,hseen⟩:=pd
  have hqp:q < π.length:=by rw [od.len];omega
  obtain ⟨i1,i2⟩:=tr.idx q hqp
  have hdr:(π.take N).drop q=π.getD q 0::(π.take N).drop (q+1):=by
    rw [QdA (by simp;omega)]
    congr 1
    simp [List.getD_eq_getElem?_getD,hq]
  rw [hdr,← i1] at hrun
  unfold RunW at hrun
  obtain ⟨o,ho,hrun⟩:=hrun
  rw [i2] at ho;injection ho with ho;subst ho
  have fin:∀ (b:Bool) (v:AV) (h':H) (seen':List Q2),GrdIs L (X q).o (X q).env b→(b=false→v=Qb∧h'=(X q).h) →
      (b=true→opC T (X q).o.op=0→opP T (X q).o.op (ev (X q).env)=some v∧h'=(X q).h)→(b=true→opC T (X q).o.op=1→opR T (X q).o.op (ev (X q).env) (X q).h=some v∧h'=(X q).h) →
      (b=true→opC T (X q).o.op=2→∃ k f n,opA T (X q).o.op (ev (X q).env)=some (k,f)∧(X q).h.push k=some (n,h')∧v=f n) →
      (∀ s∈seen,s∈seen')→(b=true→opC T (X q).o.op=1→(⟨(X q).i,(X q).o.op,(X q).env,v,true⟩:Q2)∈seen') →
      RunW T G L M ((π.take N).drop (q+1)) seen' (put (X q).o.dst v (X q).env) h' k →
      ∃ Y,Trk T L π env0 h0 Y (q+1)∧Qb6 T G L M π N Y (q+1) k∧QcC X Y∧(∀ p,p < q→Y p=X p)∧(Y q).h=(X q).h:=by
    intro b v h' seen' g1 g2 g3 g4 g5 g6 g7 g8
    refine ⟨US X q b v (put (X q).o.dst v (X q).env) h',tr.ext g1 g2 g3 g4 g5,⟨seen',by rw [YJ];exact g8,fun p hp hb hc1=>?_⟩,fun p=>⟨QaK p,XP p⟩,fun p hp=>VK hp,QaL (Nat.le_refl _)⟩
    rcases Nat.lt_or_ge p q with hlt | hge
    · rw [VK hlt] at hb hc1 ⊢;exact g6 _ (hseen p hlt hb hc1)
    · have : p = q := by omega
      subst this
      rw [Wj] at hb hc1 ⊢;exact g7 hb hc1
  have x0:∀ {K:AV→H→Prop},opX T G (X q).o.op (ev (X q).env) (X q).h K→opC T (X q).o.op=0→∃ v,opP T (X q).o.op (ev (X q).env)=some v∧K v (X q).h:=fun e c=>by
    unfold opX at e;rw [c] at e;simp only at e
    split at e
    · exact ⟨_,‹_›,e⟩
    · exact e.elim
  have x2:∀ {K:AV→H→Prop},opX T G (X q).o.op (ev (X q).env) (X q).h K→opC T (X q).o.op=2→∃ v h',(∃ k f n,opA T (X q).o.op (ev (X q).env)=some (k,f)∧(X q).h.push k=some (n,h')∧v=f n)∧K v h':=fun e c=>by
    unfold opX at e;rw [c] at e;simp only at e
    obtain ⟨v,h',e1,e2⟩:=WJ e
    unfold aNew at e1
    split at e1
    · rename_i k f hkf
      split at e1
      · rename_i n h1 hp
        injection e1 with e1;injection e1 with e1 e3;subst e1 e3
        exact ⟨_,_,⟨k,f,n,hkf,hp,rfl⟩,e2⟩
      · cases e1
    · cases e1
  split at hrun
  · rename_i c1
    rcases hrun with ⟨g,v,hv,this⟩ | ⟨g,e⟩
    · exact fin true v (X q).h _ g (fun h=>by cases h) (fun _ c=>by rw [c1] at c;cases c) (fun _ _=>⟨hv,rfl⟩) (fun _ c=>by rw [c1] at c;cases c) (fun s hs=>by simp [hs]) (fun _ _=>by simp) this
    · exact fin false Qb (X q).h _ g (fun _=>⟨rfl,rfl⟩) (fun h=>by cases h) (fun h=>by cases h) (fun h=>by cases h) (fun s hs=>by simp [hs]) (fun h=>by cases h) e
  · rename_i c3;exact absurd c3 hc
  · rename_i n1 n3
    rcases hrun with ⟨g,K,e1,e2⟩ | ⟨g,e⟩
    · rcases Qcg T (X q).o.op with c | c | c | c
      · obtain ⟨v, hv, hK⟩ := x0 e1 c
        have:=e2 _ _ hK
        exact fin true v (X q).h _ g (fun h=>by cases h) (fun _ _=>⟨hv,rfl⟩) (fun _ c'=>by rw [c] at c';cases c') (fun _ c'=>by rw [c] at c';cases c') (fun s hs=>hs) (fun _ c'=>by rw [c] at c';cases c') this
      · exact absurd c n1
      · obtain ⟨v, h', hv, hK⟩ := x2 e1 c
        have:=e2 _ _ hK
        exact fin true v h' _ g (fun h=>by cases h) (fun _ c'=>by rw [c] at c';cases c') (fun _ c'=>by rw [c] at c';cases c') (fun _ _=>hv) (fun s hs=>hs) (fun _ c'=>by rw [c] at c';cases c') this
      · exact absurd c n3
    · exact fin false Qb (X q).h _ g (fun _=>⟨rfl,rfl⟩) (fun h=>by cases h) (fun h=>by cases h) (fun h=>by cases h) (fun s hs=>hs) (fun h=>by cases h) e
theorem XW {T:Ty} {G:Gam} {L:List Oper} {M π:List Nat} {N:Nat} (hN:N≤L.length) {env0:List AV} {h0:H} {k:List Q2→List AV→H→Prop} (od:Ord T L M π) {μ0:Mu} {w0:World} {a0:Act} {D:Nat→Prop} {a:Act} {w:World} {μ:Mu} :
    ∀ (m q : Nat) (X : Nat → Rec), N - q = m → q ≤ N → Trk T L π env0 h0 X q → Qb6 T G L M π N X q k → RInv T L.length π env0 h0 X μ0 w0 a0 D q a w μ →
      ∃ q' Y,q'≤N∧Trk T L π env0 h0 Y q'∧Qb6 T G L M π N Y q' k∧RInv T L.length π env0 h0 Y μ0 w0 a0 D q' a w μ∧QcC X Y∧(q' < N→opC T (Y q').o.op=3)
  | 0,q,X,hm,hqN,tr,pd,iv=>⟨q,X,hqN,tr,pd,iv,fun _=>⟨rfl,rfl⟩,fun h=>by omega⟩
  | m + 1, q, X, hm, hqN, tr, pd, iv => by
    by_cases hc:opC T (X q).o.op=3
    · exact ⟨q,X,hqN,tr,pd,iv,fun _=>⟨rfl,rfl⟩,fun _=>hc⟩
    · obtain ⟨Y, trY, pdY, sio, hlt, hh⟩ := canon_step tr od pd hN (by omega) hc
      have ivY:=(iv.congr hlt hh).adv trY od (by omega) (by rw [(sio q).2];exact hc)
      obtain ⟨q',Z,h0,h1,h2,h3,h4,h5⟩:=XW hN od m (q+1) Y (by omega) (by omega) trY pdY ivY
      exact ⟨q',Z,h0,h1,h2,h3,fun p=>⟨(h4 p).1.trans (sio p).1,(h4 p).2.trans (sio p).2⟩,h5⟩
end Go.Am
namespace Go.Am
open Go
section
variable {P:Program} {T:Ty} {G:Gam} {ops:Array Oper} {M π:List Nat} {env0:List AV} {h0:H} {X:Nat→Rec} {q:Nat} (tr:Trk T ops.toList π env0 h0 X q) (od:Ord T ops.toList M π)
  (an:∀ j i,(M.getD j 0).testBit i=true→Qb7 ops.toList i j)
variable {μ0:Mu} {w0:World} {a0:Act}
theorem J7 {T:Ty} {L:List Oper} {M π:List Nat} {i j:Nat} {oi oj:Oper} (h:Nm T L M π i j oi oj=true) (hne:i≠j) :
    ((M.getD j 0).testBit i=true∧π.idxOf i < π.idxOf j)∨((M.getD i 0).testBit j=true∧π.idxOf j < π.idxOf i) ∨
    ((∀ t,oi.dst=some t→t ∉ looks L oj∧oj.dst≠some t)∧¬ (opC T oi.op=3∧opC T oj.op=3)∧¬ (opC T oi.op=3∧π.idxOf i < π.idxOf j)):=by
  unfold Nm Qfh at h
  simp only [Bool.or_eq_true,beq_iff_eq,Bool.and_eq_true,QH,Bool.not_eq_true',Bool.and_eq_false_iff] at h
  rcases h with ((h | h) | h) | ⟨⟨h1,h2⟩,h3⟩
  · exact absurd h hne
  · exact .inl h
  · exact .inr (.inl h)
  · refine .inr (.inr ⟨fun t ht => ?_, fun ⟨c1, c2⟩ => ?_, fun ⟨c1, c2⟩ => ?_⟩)
    · rw [ht] at h1
      simp only [Bool.or_eq_false_iff,List.contains_eq_mem,decide_eq_false_iff_not,beq_eq_false_iff_ne] at h1
      exact h1
    · rw [c1,c2] at h2;simp at h2
    · rcases h3 with h3 | h3
      · rw [c1] at h3;simp at h3
      · have:=(QH _ _).2 c2;rw [this] at h3;cases h3
include tr od an in
theorem QbR {D:Nat→Prop} {a:Act} {w:World} {μ:Mu} (iv:RInv T ops.toList.length π env0 h0 X μ0 w0 a0 D q a w μ) (hdown:QaX ops.toList D) {p:Nat} (hp:p < ops.toList.length) (hnD:¬ D (X p).i)
    (hdeps:∀ d∈UC (X p).o,D d) {p1 t:Nat} (hp1:p1 < ops.toList.length) (hd:(X p1).o.dst=some t) (hl:t∈looks ops.toList (X p).o∨(X p).o.dst=some t) (hne:p1≠p):p1 < p ↔ (p1 < q∧D (X p1).i):=by
  have e1:=ZD tr od hp1
  have e:=ZD tr od hp
  have l1:=(tr.idx p1 (by rw [od.len];exact hp1)).2
  have l:=(tr.idx p (by rw [od.len];exact hp)).2
  have hine:(X p1).i≠(X p).i:=fun h=>hne (GJ tr od hp1 hp h)
  rcases J7 (od.pair _ _ _ _ l1 l) hine with ⟨h1,h2⟩ | ⟨h1,h2⟩ | ⟨h1,_,_⟩
  · rw [e1.2, e.2] at h2
    have hD:D (X p1).i:=an _ _ h1 D (fun oj hoj d hd'=>by rw [l] at hoj;injection hoj with hoj;subst hoj;exact hdeps d hd') hdown
    have:=iv.dq _ e1.1 hD
    rw [e1.2] at this
    exact ⟨fun _=>⟨this,hD⟩,fun _=>h2⟩
  · rw [e1.2, e.2] at h2
    refine ⟨fun h=>by omega,fun ⟨_,hD⟩=>?_⟩
    exact absurd (an _ _ h1 D (fun oj hoj d hd'=>hdown _ oj d hD hoj hd') hdown) hnD
  · have := h1 t hd
    rcases hl with hl | hl
    · exact absurd hl this.1
    · exact absurd hl this.2
include tr in
theorem NO (t : Nat) : ∀ p, p ≤ q → (X p).env.length = env0.length ∧
    ((∃ p1,p1 < p∧(X p1).o.dst=some t∧(∀ p',p1 < p'→p' < p→(X p').o.dst≠some t)∧(X p).env.getD t .junk=if t < env0.length then (X p1).v else .junk) ∨
     ((∀ p1,p1 < p→(X p1).o.dst≠some t)∧(X p).env.getD t .junk=env0.getD t .junk))
  | 0,_=>⟨by rw [tr.zenv],.inr ⟨fun p1 h=>by omega,by rw [tr.zenv]⟩⟩
  | p + 1, hp => by
    obtain ⟨hl,hc⟩:=NO t p (by omega)
    have he:=tr.env p (by omega)
    refine ⟨by rw [he,GB,hl],?_⟩
    by_cases hd:(X p).o.dst=some t
    · refine .inl ⟨p, by omega, hd, fun p' h1 h2 => by omega, ?_⟩
      rw [he,hd,Qbm,hl]
    · have hg : (X (p + 1)).env.getD t .junk = (X p).env.getD t .junk := by rw [he, QcY _ _ _ _ hd]
      rcases hc with ⟨p1,h1,h2,h3,h4⟩ | ⟨h1,h2⟩
      · refine .inl ⟨p1, by omega, h2, fun p' h5 h6 => ?_, by rw [hg]; exact h4⟩
        rcases Nat.lt_or_ge p' p with h7 | h7
        · exact h3 p' h5 h7
        · have : p' = p := by omega
          subst this;exact hd
      · refine .inr ⟨fun p1 h3 => ?_, by rw [hg]; exact h2⟩
        rcases Nat.lt_or_ge p1 p with h7 | h7
        · exact h1 p1 h7
        · have : p1 = p := by omega
          subst this;exact hd
include tr od an in
theorem looks_ok {D : Nat → Prop} {a : Act} {w : World} {μ : Mu} (iv : RInv T ops.toList.length π env0 h0 X μ0 w0 a0 D q a w μ) (hdown : QaX ops.toList D) {p : Nat} (hp : p < ops.toList.length) (hpq : p ≤ q) (hnD : ¬ D (X p).i)
    (hdeps:∀ d∈UC (X p).o,D d):∀ t∈looks ops.toList (X p).o,((X p).env.getD t .junk).rel μ (a.tmps.getD t undef):=by
  intro t ht
  have hiff:∀ p1,p1 < ops.toList.length→(X p1).o.dst=some t→p1≠p→(p1 < p ↔ (p1 < q∧D (X p1).i)):=fun p1 hp1 hd hne=>QbR tr od an iv hdown hp hnD hdeps hp1 hd (.inl ht) hne
  have hqn:=iv.qn
  rcases (NO tr t p hpq).2 with ⟨p1,h1,h2,h3,h4⟩ | ⟨h1,h2⟩
  · have hd1 := (hiff p1 (by omega) h2 (by omega)).1 h1
    rw [h4]
    split
    · rename_i hlt
      rcases iv.tmp t with ⟨p2,g1,g2,g3,g4,g5⟩ | ⟨g1,_⟩
      · have hp2ne : p2 ≠ p := fun e => by subst e; exact hnD g2
        have hp2:=(hiff p2 (by omega) g3 hp2ne).2 ⟨g1,g2⟩
        have:p1=p2:=by
          rcases Nat.lt_trichotomy p1 p2 with c | c | c
          · exact absurd g3 (h3 p2 c hp2)
          · exact c
          · exact absurd h2 (g4 p1 c hd1.1 hd1.2)
        subst this;exact g5 hlt
      · exact absurd h2 (g1 p1 hd1.1 hd1.2)
    · simp [AV.rel]
  · rw [h2]
    rcases iv.tmp t with ⟨p2,g1,g2,g3,g4,g5⟩ | ⟨_,g2⟩
    · have hp2ne : p2 ≠ p := fun e => by subst e; exact hnD g2
      have hp2:=(hiff p2 (by omega) g3 hp2ne).2 ⟨g1,g2⟩
      exact absurd g3 (h1 p2 hp2)
    · exact g2
include tr od an in
theorem Qa2 {D : Nat → Prop} {q' : Nat} {a : Act} {w : World} {μ μ' : Mu} (iv : RInv T ops.toList.length π env0 h0 X μ0 w0 a0 D q a w μ) (hdown : QaX ops.toList D) {p : Nat} (hp : p < ops.toList.length) (hnD : ¬ D (X p).i)
    (hdeps:∀ d∈UC (X p).o,D d) (hle:Le μ μ') {v:Value} (hv:(X p).v.rel μ' v) (hpq:p < q') (hq:q≤q') (hqn:q'≤ops.toList.length) (t:Nat) :
    TmpOk env0 X (fun i=>D i∨i=(X p).i) q' μ' (a.put (X p).o.dst v).tmps t:=by
  have hsz:=iv.size
  have hDlt:∀ p1,p1 < ops.toList.length→D (X p1).i→p1 < q:=fun p1 h1 h2=>by
    have e:=ZD tr od h1
    have:=iv.dq _ e.1 h2;rw [e.2] at this;exact this
  have hin:∀ p1,p1 < ops.toList.length→(X p1).i=(X p).i→p1=p:=fun p1 h1 h2=>GJ tr od h1 hp h2
  by_cases hd:(X p).o.dst=some t
  · refine .inl ⟨p, hpq, .inr rfl, hd, fun p' h1 h2 h3 h4 => ?_, fun ht => ?_⟩
    · rcases h3 with h3 | h3
      · have := (QbR tr od an iv hdown hp hnD hdeps (by omega) h4 (.inr hd) (by omega)).2 ⟨hDlt p' (by omega) h3, h3⟩
        omega
      · have:=hin p' (by omega) h3;omega
    · have hlt : t < a.tmps.size := by omega
      rw [hd]
      simpa [Act.put,hlt] using hv
  · have hsame : (a.put (X p).o.dst v).tmps.getD t undef = a.tmps.getD t undef := by
      cases hdd:(X p).o.dst with
      | none=>rfl
      | some d =>
        have:d≠t:=fun e=>hd (by rw [hdd,e])
        simp [Act.put,Array.getElem?_setIfInBounds_ne this]
    rcases iv.tmp t with ⟨p2,g1,g2,g3,g4,g5⟩ | ⟨g1,g2⟩
    · refine .inl ⟨p2, by omega, .inl g2, g3, fun p' h1 h2 h3 => ?_, fun ht => by rw [hsame]; exact AV.rel_mono hle _ _ (g5 ht)⟩
      rcases h3 with h3 | h3
      · exact g4 p' h1 (hDlt p' (by omega) h3) h3
      · rw [hin p' (by omega) h3];exact hd
    · refine .inr ⟨fun p' h1 h3 => ?_, by rw [hsame]; exact AV.rel_mono hle _ _ g2⟩
      rcases h3 with h3 | h3
      · exact g1 p' (hDlt p' (by omega) h3) h3
      · rw [hin p' (by omega) h3];exact hd
include tr od an in
theorem G1 {D:Nat→Prop} {a:Act} {w w':World} {μ μ':Mu} (iv:RInv T ops.toList.length π env0 h0 X μ0 w0 a0 D q a w μ) (hdown:QaX ops.toList D) {p:Nat} (hp:p < ops.toList.length) (hnD:¬ D (X p).i)
    (hdeps:∀ d∈UC (X p).o,D d) (hpq:p < q) (hle:Le μ μ') {v:Value} (hv:(X p).v.rel μ' v) (hpost:Post μ0 h0 w0 μ' (X q).h w')
    (hother:∀ p',p' < q→p'≠p→¬ D (X p').i→(X p').b=true→opC T (X p').o.op=2→μ' (X p').h.next=none) :
    RInv T ops.toList.length π env0 h0 X μ0 w0 a0 (fun i=>D i∨i=(X p).i) q (a.put (X p).o.dst v) w' μ':=by
  have e:=ZD tr od hp
  refine ⟨iv.qn,fun p1 h1 h2=>.inl (iv.ws p1 h1 h2),fun i hi hd=>?_,hpost,(VA _ _ _).trans iv.defers,?_,fun t=>Qa2 tr od an iv hdown hp hnD hdeps hle hv hpq (Nat.le_refl _) iv.qn t,iv.mono,fun p1 h1 h2=>iv.load p1 h1 (fun h=>h2 (.inl h)),fun p1 h1 h2 h3 h4=>?_⟩
  · rcases hd with hd | hd
    · exact iv.dq i hi hd
    · rw [hd,e.2];exact hpq
  · have := iv.size
    cases (X p).o.dst <;> simpa [Act.put] using this
  · obtain ⟨k, f, m1, m2, m3, m4, m5⟩ := iv.made p1 h1 (fun h => h2 (.inl h)) h3 h4
    exact ⟨k,f,m1,m2,m3,hother p1 h1 (fun e=>h2 (.inr (by rw [e]))) (fun h=>h2 (.inl h)) h3 h4,m5⟩
include tr od an in
theorem step_loud {D : Nat → Prop} {a : Act} {w w' : World} {μ μ' : Mu} (iv : RInv T ops.toList.length π env0 h0 X μ0 w0 a0 D q a w μ) (hdown : QaX ops.toList D) (hq : q < ops.toList.length) (hnD : ¬ D (X q).i)
    (hdeps:∀ d∈UC (X q).o,D d) (hc:opC T (X q).o.op=3) {v:Value} (hv:(X q).v.rel μ' v) (hpost:Post μ (X q).h w μ' (X (q+1)).h w')
    (hagain:∀ p',p' < q→¬ D (X p').i→(X p').b=true→opC T (X p').o.op=1→opR T (X p').o.op (ev (X p').env) (X (q+1)).h=some (X p').v) :
    RInv T ops.toList.length π env0 h0 X μ0 w0 a0 (fun i=>D i∨i=(X q).i) (q+1) (a.put (X q).o.dst v) w' μ':=by
  have e:=ZD tr od hq
  have hle:=iv.post.rel.ext_le hpost.ext
  refine ⟨hq,fun p1 h1 h2=>?_,fun i hi hd=>?_,iv.post.trans hpost,(VA _ _ _).trans iv.defers,?_,fun t=>Qa2 tr od an iv hdown hq hnD hdeps hle hv (Nat.lt_succ_self q) (Nat.le_succ q) hq t,fun p p' hp hp'=>?_,fun p1 h1 h2 h3 h4=>?_,fun p1 h1 h2 h3 h4=>?_⟩
  · rcases Nat.lt_or_ge p1 q with h | h
    · exact .inl (iv.ws p1 h h2)
    · have : p1 = q := by omega
      subst this;exact .inr rfl
  · rcases hd with hd | hd
    · have:=iv.dq i hi hd;omega
    · rw [hd,e.2];omega
  · have := iv.size
    cases (X q).o.dst <;> simpa [Act.put] using this
  · have hn := hpost.grows.next
    rcases Nat.lt_or_ge p' (q+1) with h | h
    · exact iv.mono p p' hp (by omega)
    · have : p' = q + 1 := by omega
      subst this
      rcases Nat.lt_or_ge p (q+1) with h' | h'
      · have:=iv.mono p q (by omega) (Nat.le_refl _);omega
      · have : p = q + 1 := by omega
        subst this;exact Nat.le_refl _
  · have hne : p1 ≠ q := fun e => h2 (.inr (by rw [e]))
    exact hagain p1 (by omega) (fun h=>h2 (.inl h)) h3 h4
  · have hne : p1 ≠ q := fun e => h2 (.inr (by rw [e]))
    obtain ⟨k,f,m1,m2,m3,m4,m5,m6,m7⟩:=iv.made p1 (by omega) (fun h=>h2 (.inl h)) h3 h4
    refine ⟨k,f,m1,m2,?_,?_,?_,m6,m7⟩
    · rw [hpost.grows.keep _ m5 m4];exact m3
    · rw [(hpost.ext _ m5).1];exact m4
    · have:=hpost.grows.next;omega
end
end Go.Am
namespace Go.Am
open Go
theorem Gm {l : List Nat} {p p' : Nat → Bool} {i : Nat} (hi : i ∈ l) (h : ∀ x, p' x = true → p x = true) (h1 : p i = true) (h2 : p' i = false) : (l.filter p').length + 1 ≤ (l.filter p).length := by
  have le:∀ l:List Nat,(l.filter p').length≤(l.filter p).length:=by
    intro l
    induction l with
    | nil=>simp
    | cons x l ih =>
      simp only [List.filter_cons]
      cases hx:p' x with
      | true=>rw [h x hx];simpa using ih
      | false=>cases p x <;> simp <;> omega
  induction l with
  | nil=>cases hi
  | cons x l ih =>
    simp only [List.filter_cons]
    by_cases hx:i=x
    · subst hx
      rw [h1,h2];simpa using le l
    · have hl : i ∈ l := by cases hi with
        | head=>exact absurd rfl hx
        | tail _ h=>exact h
      have:=ih hl
      cases hx':p' x with
      | true=>rw [h x hx'];simpa using this
      | false=>cases p x <;> simp <;> omega
section
variable {P:Program} {T:Ty} (hT:YN P T) {G:Gam} (hG:Wm P G) {F:Fence} (hF:WideF F) {n:Nat} {ops:Array Oper} {M π:List Nat} {env0:List AV} {h0:H} (od:Ord T ops.toList M π)
  (an:∀ j i,(M.getD j 0).testBit i=true→Qb7 ops.toList i j)
variable {μ0:Mu} {w0:World} {a0:Act} {k:List Q2→List AV→H→Prop} {N:Nat}
def At (T:Ty) (G:Gam) (ops:Array Oper) (M π:List Nat) (N:Nat) (env0:List AV) (h0:H) (k:List Q2→List AV→H→Prop) (μ0:Mu) (w0:World) (a0:Act) (D:Nat→Prop) (a:Act) (w:World) (μ:Mu):Prop :=
  ∃ q X,q≤N∧Trk T ops.toList π env0 h0 X q∧Qb6 T G ops.toList M π N X q k∧RInv T ops.toList.length π env0 h0 X μ0 w0 a0 D q a w μ∧(q < N→opC T (X q).o.op=3)
theorem Trk.weak {T:Ty} {L:List Oper} {π:List Nat} {env0:List AV} {h0:H} {X:Nat→Rec} {q q':Nat} (tr:Trk T L π env0 h0 X q) (h:q'≤q):Trk T L π env0 h0 X q' :=
  ⟨tr.idx,tr.zenv,tr.zh,fun p hp=>tr.grd p (by omega),fun p hp=>tr.skip p (by omega),fun p hp=>tr.run0 p (by omega),fun p hp=>tr.run1 p (by omega),fun p hp=>tr.run2 p (by omega),fun p hp=>tr.env p (by omega)⟩
include hT hG hF od an in
theorem Qa6 {D : Nat → Prop} {a : Act} {w : World} {μ : Mu} {Q : Exit → Act → World → Prop} {K : Act → World → Prop} (hN : N ≤ ops.toList.length) (at_ : At T G ops M π N env0 h0 k μ0 w0 a0 D a w μ)
    (hdown:QaX ops.toList D) {j:Nat} {o:Oper} (hj:ops[j]?=some o) (hjN:π.idxOf j < N) (hnD:¬ D j) (hdeps:∀ d∈UC o,D d)
    (hK:∀ a' w' μ',At T G ops M π N env0 h0 k μ0 w0 a0 (fun i=>D i∨i=j) a' w' μ'→K a' w'):wpOpIn F n P ops Q j K a w:=by
  obtain ⟨q,X,hqN,tr,pd,iv,hmax⟩:=at_
  have hjn:j < ops.toList.length:=by
    rw [← Array.getElem?_toList] at hj;exact (List.getElem?_eq_some_iff.1 hj).1
  obtain ⟨p,hpe⟩:∃ p,p=π.idxOf j:=⟨_,rfl⟩
  have hp:p < ops.toList.length:=by rw [hpe];exact od.lt j hjn
  have hpi:(X p).i=j:=by rw [hpe];exact at_pos tr od hjn
  have hp':p < π.length:=by rw [od.len];exact hp
  have ho:(X p).o=o:=by
    have:=(tr.idx p hp').2
    rw [hpi,Array.getElem?_toList,hj] at this;injection this with this;exact this.symm
  rw [← hpi] at hnD
  subst ho
  have hcase:(p=q∧opC T (X p).o.op=3)∨(p < q∧opC T (X p).o.op≠3):=by
    by_cases hc:opC T (X p).o.op=3
    · refine .inl ⟨?_, hc⟩
      rcases Nat.lt_trichotomy p q with h | h | h
      · exact absurd (iv.ws p h hc) hnD
      · exact h
      · exfalso
        have hq:q < ops.toList.length:=by omega
        have hcq:=hmax (by omega)
        have eq:=ZD tr od hq
        have ep:=ZD tr od hp
        have lq:=(tr.idx q (by rw [od.len];exact hq)).2
        have lp:=(tr.idx p hp').2
        have hne:(X q).i≠(X p).i:=fun e=>by have:=GJ tr od hq hp e;omega
        rcases J7 (od.pair _ _ _ _ lq lp) hne with ⟨h1,_⟩ | ⟨_,h2⟩ | ⟨_,h2,_⟩
        · have hD := an _ _ h1 D (fun oj hoj d hd => by rw [lp] at hoj; injection hoj with hoj; subst hoj; exact hdeps d hd) hdown
          have:=iv.dq _ eq.1 hD;omega
        · omega
        · exact h2 ⟨hcq,hc⟩
    · refine .inr ⟨?_, hc⟩
      rcases Nat.lt_or_ge p q with h | h
      · exact h
      · exfalso
        have hq:q < ops.toList.length:=by omega
        have hcq:=hmax (by omega)
        have eq:=ZD tr od hq
        have ep:=ZD tr od hp
        have lq:=(tr.idx q (by rw [od.len];exact hq)).2
        have lp:=(tr.idx p hp').2
        have hqp:q≠p:=fun e=>by subst e;exact hc hcq
        have hne:(X q).i≠(X p).i:=fun e=>hqp (GJ tr od hq hp e)
        rcases J7 (od.pair _ _ _ _ lq lp) hne with ⟨h1,_⟩ | ⟨_,h2⟩ | ⟨_,_,h3⟩
        · have hD := an _ _ h1 D (fun oj hoj d hd => by rw [lp] at hoj; injection hoj with hoj; subst hoj; exact hdeps d hd) hdown
          have:=iv.dq _ eq.1 hD;omega
        · omega
        · exact h3 ⟨hcq,by omega⟩
  have hpq:p≤q:=by rcases hcase with ⟨h,_⟩ | ⟨h,_⟩ <;> omega
  have hlooks:=looks_ok tr od an iv hdown hp hpq hnD hdeps
  have hslot:∀ d∈YI ops.toList (X p).o,((X p).env.getD d .junk).rel μ (a.tmps.getD d undef):=fun d hd=>hlooks d (guardSlot_looks hd)
  have hrel:Wz μ (QbO (looks ops.toList (X p).o) (X p).env) a.eval:=evOn_rel hlooks
  have hev:∀ x∈(X p).o.op.operands,ev (X p).env x=QbO (looks ops.toList (X p).o) (X p).env x:=evOn_eq
  unfold wpOpIn
  rw [hj]
  simp only
  rcases hcase with ⟨rfl,hc⟩ | ⟨hlt,hc⟩
  ·
    obtain ⟨seen,hrun,hseen⟩:=pd
    obtain ⟨i1,i2⟩:=tr.idx p hp'
    have hdr:(π.take N).drop p=π.getD p 0::(π.take N).drop (p+1):=by
      rw [QdA (by simp;omega)]
      congr 1
      have hpN:p < N:=by omega
      simp [List.getD_eq_getElem?_getD,hpN]
    rw [hdr,← i1] at hrun
    unfold RunW at hrun
    obtain ⟨o',ho',hrun⟩:=hrun
    rw [i2] at ho';injection ho' with ho';subst ho'
    simp only [hc] at hrun
    have anc:∀ p',p' < p→¬ D (X p').i→Nat.testBit (M.getD (X p).i 0) (X p').i=false:=by
      intro p' hp'' hd
      cases ht:Nat.testBit (M.getD (X p).i 0) (X p').i with
      | false=>rfl
      | true =>
        have lp:=(tr.idx p hp').2
        exact absurd (an _ _ ht D (fun oj hoj d hd=>by rw [lp] at hoj;injection hoj with hoj;subst hoj;exact hdeps d hd) hdown) hd
    have fin:∀ (b:Bool) (r:AV) (h':H) (v:Value) (w':World) (μ':Mu),GrdIs ops.toList (X p).o (X p).env b→(b=false→r=Qb∧h'=(X p).h)→r.rel μ' v→Post μ (X p).h w μ' h' w' →
        (Z3 T (M.getD (X p).i 0) h' (RunW T G ops.toList M ((π.take N).drop (p+1)) seen (put (X p).o.dst r (X p).env) h' k) seen)→K (a.put (X p).o.dst v) w':=by
      intro b r h' v w' μ' g1 g2 hv hpost e
      obtain ⟨e1,again⟩:=Yl e
      have trY:=tr.ext (v:=r) (h':=h') g1 g2 (fun _ c=>by rw [hc] at c;cases c) (fun _ c=>by rw [hc] at c;cases c) (fun _ c=>by rw [hc] at c;cases c)
      have pdY:Qb6 T G ops.toList M π N (US X p b r (put (X p).o.dst r (X p).env) h') (p+1) k:=by
        refine ⟨seen,by rw [YJ];exact e1,fun p1 hp1 hb hc1=>?_⟩
        rcases Nat.lt_or_ge p1 p with hlt | hge
        · rw [VK hlt] at hb hc1 ⊢;exact hseen p1 hlt hb hc1
        · have : p1 = p := by omega
          subst this
          rw [XP,hc] at hc1;cases hc1
      have ivY:=iv.congr (Y:=US X p b r (put (X p).o.dst r (X p).env) h') (fun p1 h=>VK h) (QaL (Nat.le_refl _))
      have iv2:=step_loud (w':=w') (μ':=μ') (v:=v) (trY.weak (Nat.le_succ p)) od an ivY hdown hp (by rw [QaK];exact hnD) (by rw [XP];exact hdeps) (by rw [XP];exact hc) (by rw [Wj];exact hv)
        (by rw [Wj,YJ];exact hpost) (fun p1 h1 h2 h3 h4=>by
          rw [VK h1] at h2 h3 h4 ⊢;rw [YJ]
          cases hgl:Qco (X p1).o.op with
          | false=>exact again _ (hseen p1 h1 h3 h4) rfl (anc p1 h1 h2) hgl
          | true=>exact opR_gl hgl hpost.grows.next hpost.grows.base hpost.grows.low (iv.load p1 h1 h2 h3 h4))
      rw [QaK,XP,hpi] at iv2
      obtain ⟨q',Z,z0,z1,z2,z3,_,z5⟩:=XW hN od _ _ _ rfl (by omega) trY pdY iv2
      exact hK _ _ _ ⟨q',Z,z0,z1,z2,z3,z5⟩
    rcases hrun with ⟨g,K',e1,e2⟩ | ⟨g,e⟩
    · rw [g.wanted hslot]
      simp only [if_true]
      rw [opX_congr hev] at e1
      exact Qes hT hG hF e1 hrel iv.post.rel fun v w' μ' r h' hv hpost hk=>fin true r h' v w' μ' g (fun h=>by cases h) hv hpost (e2 r h' hk)
    · rw [g.wanted hslot]
      simp only [Bool.false_eq_true,if_false]
      exact ⟨fun f _=>hF.fn f,fin false Qb (X p).h undef w μ g (fun _=>⟨rfl,rfl⟩) Xi (Post.refl iv.post.rel) e⟩
  · rw [(tr.grd p hlt).wanted hslot]
    have quiet:∀ v,(X p).v.rel μ v→K (a.put (X p).o.dst v) w:=fun v hv=>by
      have iv2:=G1 tr od an iv hdown hp hnD hdeps hlt (Le.refl _) hv iv.post (fun p' h1 _ h2 h3 h4=>by
        obtain ⟨_,_,_,_,_,m4,_⟩:=iv.made p' h1 h2 h3 h4;exact m4)
      rw [hpi] at iv2
      exact hK _ _ _ ⟨q,X,hqN,tr,pd,iv2,hmax⟩
    cases hb:(X p).b with
    | false =>
      simp only [Bool.false_eq_true,if_false]
      exact ⟨fun f _=>hF.fn f,quiet undef (by rw [(tr.skip p hlt hb).1];exact Xi)⟩
    | true =>
      simp only [if_true]
      rcases Qcg T (X p).o.op with c | c | c | c
      · have h0' := (tr.run0 p hlt hb c).1
        rw [Ds hev] at h0'
        obtain ⟨x,h1,h2⟩:=Qet hT h0' hrel
        exact Y0 hF (fun cc e=>by rw [e] at h0';cases h0') (h1 w) (quiet x h2)
      · have h0' := iv.load p hlt hnD hb c
        rw [Dr hev] at h0'
        obtain ⟨x,h1,h2⟩:=Qcf hT h0' hrel iv.post.rel
        exact Y0 hF (fun cc e=>by rw [e] at h0';cases h0') h1 (quiet x h2)
      · obtain ⟨kk, f, m1, m2, m3, m4, m5, m6, m7⟩ := iv.made p hlt hnD hb c
        rw [Dt hev] at m1
        obtain ⟨v,ob,w',q1,q2,q3,q4,q5,q6,_,cs,t,fr,rfl,q7⟩:=Qeu hT m1 hrel w
        have hle:Le μ (upd μ (X p).h.next (w.heap.size,0) cs.size):=Un _ _ fun z hz=>by rw [m4] at hz;cases hz
        have hpost:=post_late iv.post m4 m5 m6 q3 q4 q5 q2 rfl (by rw [m3];exact q6 _ hle)
        refine Y0 hF (fun cc e=>by rw [e] at m1;cases m1) q1 ?_
        have iv2:=G1 tr od an iv hdown hp hnD hdeps hlt hle (by rw [m2];exact q7 _ _ (Ze _ _ _ _) (UW _ _ _ _)) hpost fun p' h1 hne h2 h3 h4=>by
          obtain ⟨_,_,_,_,_,n4,_,_,n7⟩:=iv.made p' h1 h2 h3 h4
          rw [ZF]
          · exact n4
          · have hqn := iv.qn
            rcases Nat.lt_or_ge p p' with h | h
            · have:=iv.mono (p+1) p' (by omega) (by omega);omega
            · have:=iv.mono (p'+1) p (by omega) (by omega);omega
        rw [hpi] at iv2
        exact hK _ _ _ ⟨q,X,hqN,tr,pd,iv2,hmax⟩
      · exact absurd c hc
include hT hG hF od an in
theorem Qcz {Q : Exit → Act → World → Prop} (hQ : ∀ a w μ, At T G ops M π ops.toList.length env0 h0 k μ0 w0 a0 (fun i => i < ops.toList.length) a w μ → Q .normal a w) :
    ∀ (fuel : Nat) (listed : Array Bool) (a : Act) (w : World) (μ : Mu), listed.size = ops.size → ((List.range ops.size).filter fun i => listed.getD i false == false).length ≤ fuel →
      At T G ops M π ops.toList.length env0 h0 k μ0 w0 a0 (fun i=>listed.getD i false=true) a w μ→QaX ops.toList (fun i=>listed.getD i false=true) →
      wpAnyIn F n P .any ops Q fuel listed a w:=by
  have hlen:ops.toList.length=ops.size:=by simp
  have mem:∀ {listed:Array Bool} {i:Nat} {o:Oper},ops[i]?=some o→((∀ e∈o.after,Region.binds .any e=true→listed.getD e.on false=true) ↔ ∀ d∈UC o,listed.getD d false=true):=by
    intro listed i o _
    unfold UC
    constructor
    · intro h d hd
      rw [List.mem_filterMap] at hd
      obtain ⟨e,he,hb⟩:=hd
      split at hb
      · injection hb with hb;subst hb;exact h e (by simpa using he) (by assumption)
      · cases hb
    · intro h e he hb
      exact h e.on (by rw [List.mem_filterMap];exact ⟨e,by simpa using he,by rw [if_pos hb]⟩)
  have atEnd:∀ (listed:Array Bool) (a:Act) (w:World) (μ:Mu),listed.size=ops.size→At T G ops M π ops.toList.length env0 h0 k μ0 w0 a0 (fun i=>listed.getD i false=true) a w μ →
      Region.ready .any ops listed=[]→Q .normal a w:=by
    intro listed a w μ hs at_ hr
    have all:∀ i,i < ops.size→listed.getD i false=true:=by
      have key:∀ p i,π.idxOf i=p→i < ops.size→listed.getD i false=true:=by
        intro p
        induction p using Nat.strongRecOn with
        | _ p ih =>
          intro i hip hi
          have hoi:ops[i]?=some ops[i]:=by simp [hi]
          cases hl:listed.getD i false with
          | true=>rfl
          | false =>
            have:i∈Region.ready .any ops listed:=by
              rw [mem_ready]
              refine ⟨?_,ops[i],hoi,(mem hoi).2 fun d hd=>?_⟩
              · have : i < listed.size := by omega
                simp [this] at hl ⊢;exact hl
              · have hd' := od.dep i ops[i] (by rw [Array.getElem?_toList]; exact hoi) d hd
                have hlt:=od.lt i (by rw [hlen];exact hi)
                have hdl:π.idxOf d < π.length:=by rw [od.len];omega
                have hdm:=(od.pos (π.idxOf d) (by omega)).2
                have hdd:π.getD (π.idxOf d) 0=d:=by
                  rw [List.getD_eq_getElem?_getD,List.getElem?_eq_getElem hdl];simp [List.getElem_idxOf]
                rw [hdd] at hdm
                exact ih _ (by omega) d rfl (by rw [← hlen];exact hdm)
            rw [hr] at this;cases this
      exact fun i hi=>key _ i rfl hi
    have hDeq:(fun i=>listed.getD i false=true)=(fun i=>i < ops.toList.length)∨True:=.inr trivial
    obtain ⟨q,X,hqN,tr,pd,iv,hmax⟩:=at_
    have hiff:∀ p,p < ops.toList.length→(((X p).i < ops.toList.length) ↔ listed.getD (X p).i false=true):=fun p hp=>
      ⟨fun h=>all _ (by rw [← hlen];exact h),fun _=>(ZD tr od hp).1⟩
    have hqn:=iv.qn
    refine hQ a w μ ⟨q,X,hqN,tr,pd,⟨iv.qn,fun p h1 h3=>(ZD tr od (by omega)).1,fun i hi _=>iv.dq i hi (all i (by rw [← hlen];exact hi)),iv.post,iv.defers,iv.size,fun t=>?_,iv.mono,fun p h1 h2=>absurd (ZD tr od (by omega)).1 h2,fun p h1 h2=>absurd (ZD tr od (by omega)).1 h2⟩,hmax⟩
    rcases iv.tmp t with ⟨p,g1,g2,g3,g4,g5⟩ | ⟨g1,g2⟩
    · exact .inl ⟨p,g1,(ZD tr od (by omega)).1,g3,fun p' h1 h2 _=>g4 p' h1 h2 (all _ (by rw [← hlen];exact (ZD tr od (by omega)).1)),g5⟩
    · exact .inr ⟨fun p h1 _=>g1 p h1 (all _ (by rw [← hlen];exact (ZD tr od (by omega)).1)),g2⟩
  intro fuel
  induction fuel with
  | zero =>
    intro listed a w μ hs hf at_ hdown
    have hr:Region.ready .any ops listed=[]:=by
      rw [List.eq_nil_iff_forall_not_mem]
      intro i hi
      obtain ⟨h0,o,ho,_⟩:=mem_ready.1 hi
      have hi':i < ops.size:=(Array.getElem?_eq_some_iff.1 ho).1
      have:i∈(List.range ops.size).filter fun i=>listed.getD i false == false:=by
        rw [List.mem_filter,List.mem_range]
        refine ⟨hi',?_⟩
        have:i < listed.size:=by omega
        simp [this] at h0 ⊢;exact h0
      have hl:=List.length_pos_of_mem this
      omega
    exact ⟨hr,atEnd listed a w μ hs at_ hr⟩
  | succ fuel ih =>
    intro listed a w μ hs hf at_ hdown
    refine ⟨atEnd listed a w μ hs at_,fun i hi=>?_⟩
    obtain ⟨h0,o,ho,hall⟩:=mem_ready.1 hi
    have hi':i < ops.size:=(Array.getElem?_eq_some_iff.1 ho).1
    have hil:i < listed.size:=by omega
    have hfalse:listed.getD i false=false:=by simp [hil] at h0 ⊢;exact h0
    have hdeps:=(mem ho).1 hall
    have hset:∀ x,((listed.setIfInBounds i true).getD x false=true) ↔ (listed.getD x false=true∨x=i):=by
      intro x
      by_cases hx:i=x
      · subst hx;simp [hil]
      · rw [getD_set_ne false hx]
        constructor
        · exact .inl
        · rintro (h | h)
          · exact h
          · exact absurd h.symm hx
    have hsetEq:(fun x=>(listed.setIfInBounds i true).getD x false=true)=(fun x=>listed.getD x false=true∨x=i):=funext fun x=>propext (hset x)
    refine Qa6 hT hG hF od an (Nat.le_refl _) at_ hdown ho (od.lt i (by rw [hlen];exact hi')) (by rw [hfalse];simp) hdeps fun a' w' μ' at'=>?_
    refine ih (listed.setIfInBounds i true) a' w' μ' (by simpa using hs) ?_ (by rw [hsetEq];exact at') ?_
    · have := Gm (l := List.range ops.size) (p := fun i => listed.getD i false == false) (p' := fun x => (listed.setIfInBounds i true).getD x false == false) (i := i) (by simpa using hi') (fun x hx => by
        have:=(hset x)
        cases hl:listed.getD x false with
        | false=>rfl
        | true =>
          rw [beq_iff_eq] at hx
          have:=this.2 (.inl hl)
          rw [hx] at this;cases this) (by rw [hfalse];rfl) (by
        have:=(hset i).2 (.inr rfl);rw [this];rfl)
      omega
    · intro x ox d hx hox hd
      rw [hset] at hx ⊢
      rcases hx with hx | hx
      · exact .inl (hdown x ox d hx hox hd)
      · subst hx
        rw [Array.getElem?_toList,ho] at hox;injection hox with hox;subst hox
        exact .inl (hdeps d hd)
end
section
variable {P:Program} {T:Ty} (hT:YN P T) {G:Gam} (hG:Wm P G) {F:Fence} (hF:WideF F) {n:Nat} {ops:Array Oper} {M π:List Nat} (od:Ord T ops.toList M π)
  (an:∀ j i,(M.getD j 0).testBit i=true→Qb7 ops.toList i j) {N:Nat} {env:List AV} {h:H} {μ:Mu} {a:Act} {w:World}
include od in
theorem Qb2 {k:List Q2→List AV→H→Prop} (hN:N≤ops.toList.length) (hrun:RunW T G ops.toList M (π.take N) [] env h k) (he:EnvRel μ env a.tmps) (hR:Rel μ h w) :
    At T G ops M π N env h k μ w a (fun i=>(Array.replicate ops.size false).getD i false=true) a w μ:=by
  have hlen:ops.toList.length=ops.size:=by simp
  obtain ⟨X,hX⟩:∃ X:Nat→Rec,X=fun p=>⟨π.getD p 0,(ops.toList[π.getD p 0]?).getD default,true,env,h,.junk⟩:=⟨_,rfl⟩
  have tr0:Trk T ops.toList π env h X 0:=by
    refine ⟨fun p hp=>?_,by rw [hX],by rw [hX],fun p hp=>by omega,fun p hp=>by omega,fun p hp=>by omega,fun p hp=>by omega,fun p hp=>by omega,fun p hp=>by omega⟩
    have:=(od.pos p (by rw [← od.len];exact hp)).2
    subst hX
    refine ⟨rfl,?_⟩
    show ops.toList[π.getD p 0]?=some ((ops.toList[π.getD p 0]?).getD default)
    rw [List.getElem?_eq_getElem this];rfl
  have pd0:Qb6 T G ops.toList M π N X 0 k:=⟨[],by rw [List.drop_zero,tr0.zenv,tr0.zh];exact hrun,fun p hp=>by omega⟩
  have nof:∀ i,¬ ((Array.replicate ops.size false).getD i false=true):=fun i hi=>by
    by_cases h:i < ops.size <;> simp [h] at hi
  have iv0:RInv T ops.toList.length π env h X μ w a (fun i=>(Array.replicate ops.size false).getD i false=true) 0 a w μ:=by
    refine ⟨Nat.zero_le _,fun p hp=>by omega,fun i _ hd=>absurd hd (nof i),by rw [tr0.zh];exact Post.refl hR,rfl,he.len,fun t=>.inr ⟨fun p hp=>by omega,he.get t⟩,fun p p' hp hp'=>by
      have h1:p=0:=by omega
      have h2:p'=0:=by omega
      rw [h1,h2];exact Nat.le_refl _,fun p hp=>by omega,fun p hp=>by omega⟩
  obtain ⟨q,Y,y0,y1,y2,y3,_,y5⟩:=XW hN od _ _ _ rfl (Nat.zero_le _) tr0 pd0 iv0
  exact ⟨q,Y,y0,y1,y2,y3,y5⟩
include od in
theorem Qcw {Q : Exit → Act → World → Prop} {k : List AV → H → Prop} {a0 : Act} {w0 : World} {μ0 : Mu} {h0 : H} {env0 : List AV}
    (hq:∀ μ' env' h' a' w',Post μ0 h0 w0 μ' h' w'→EnvRel μ' env' a'.tmps→a'.defers=a0.defers→k env' h'→env'.length=env0.length→Q .normal a' w')
    (at':At T G ops M π ops.toList.length env0 h0 (fun _=>k) μ0 w0 a0 (fun i=>i < ops.toList.length) a w μ):Q .normal a w:=by
  obtain ⟨q,X,hqN,tr,pd,iv,hmax⟩:=at'
  have hqn:=iv.qn
  have hq':q=ops.toList.length:=by
    rcases Nat.lt_or_ge q ops.toList.length with h | h
    · have e := ZD tr od h
      have:=iv.dq _ e.1 e.1;omega
    · omega
  subst hq'
  obtain ⟨seen,hrun',_⟩:=pd
  rw [List.drop_eq_nil_of_le (by rw [List.length_take];omega)] at hrun'
  have hk:k (X ops.toList.length).env (X ops.toList.length).h:=hrun'
  have ec:=fun t=>NO tr t ops.toList.length (Nat.le_refl _)
  refine hq μ (X ops.toList.length).env (X ops.toList.length).h a w iv.post ⟨fun t=>?_,by rw [(ec 0).1];exact iv.size⟩ iv.defers hk (ec 0).1
  rcases (ec t).2 with ⟨p1,h1,h2,h3,h4⟩ | ⟨h1,h2⟩
  · rw [h4]
    split
    · rename_i hlt
      rcases iv.tmp t with ⟨p2,g1,g2,g3,g4,g5⟩ | ⟨g1,_⟩
      · have : p1 = p2 := by
          rcases Nat.lt_trichotomy p1 p2 with c | c | c
          · exact absurd g3 (h3 p2 c g1)
          · exact c
          · exact absurd h2 (g4 p1 c h1 (ZD tr od h1).1)
        subst this;exact g5 hlt
      · exact absurd h2 (g1 p1 h1 (ZD tr od h1).1)
    · simp [AV.rel]
  · rw [h2]
    rcases iv.tmp t with ⟨p2,g1,g2,g3,g4,g5⟩ | ⟨_,g2⟩
    · exact absurd g3 (h1 p2 g1)
    · exact g2
end
theorem draw_ok {P:Program} {T:Ty} (hT:YN P T) {G:Gam} (hG:Wm P G) {F:Fence} (hF:WideF F) {n:Nat} {ops:Array Oper} {π:List Nat} {k:List AV→H→Prop} {Q:Exit→Act→World→Prop} {env:List AV} {h:H} {μ:Mu} {a:Act} {w:World}
    (hok:YH T ops.toList (Qx ops.toList []) π=true) (hrun:RunW T G ops.toList (Qx ops.toList []) π [] env h fun _=>k) (he:EnvRel μ env a.tmps) (hR:Rel μ h w)
    (hq:∀ μ' env' h' a' w',Post μ h w μ' h' w'→EnvRel μ' env' a'.tmps→a'.defers=a.defers→k env' h'→env'.length=env.length→Q .normal a' w') :
    wpAnyIn F n P .any ops Q ops.size (Array.replicate ops.size false) a w:=by
  have od:=U5 hok
  have an:=KG ops.toList ops.toList [] rfl (fun j i hb=>by simp at hb)
  have hpi:π.take ops.toList.length=π:=List.take_of_length_le (by rw [od.len];exact Nat.le_refl _)
  refine Qcz hT hG hF od an (fun a' w' μ'=>Qcw od hq) ops.size (Array.replicate ops.size false) a w μ (by simp) (by
    refine Nat.le_trans (List.length_filter_le _ _) (by simp)) (Qb2 od (Nat.le_refl _) (by rw [hpi];exact hrun) he hR) (fun x ox d hx=>by
      exfalso;by_cases h:x < ops.size <;> simp [h] at hx)
end Go.Am
namespace Go.Am
open Go
set_option linter.all false
theorem Tr.set_comm:∀ (t:Tr) (i j:Nat) (a b:Blk),i≠j→Tr.get t i≠.dead→Tr.get t j≠.dead→Tr.set (Tr.set t i a) j b=Tr.set (Tr.set t j b) i a
  | .lf,i,j,a,b,_,h,_=>absurd (Tr.get_lf i) h
  | .nd v l r,0,0,a,b,h,_,_=>absurd rfl h
  | .nd v l r, 0, j + 1, a, b, _, _, _ => by
    show Tr.set (.nd a l r) (j+1) b=Tr.set (Tr.set (.nd v l r) (j+1) b) 0 a
    rw [Tr.set_nd_succ,Tr.set_nd_succ]
    split <;> rfl
  | .nd v l r, i + 1, 0, a, b, _, _, _ => by
    show Tr.set (Tr.set (.nd v l r) (i+1) a) 0 b=Tr.set (.nd b l r) (i+1) a
    rw [Tr.set_nd_succ,Tr.set_nd_succ]
    split <;> rfl
  | .nd v l r, i + 1, j + 1, a, b, hne, hi, hj => by
    rw [Tr.get_nd_succ] at hi hj
    rw [Tr.set_nd_succ v l r i,Tr.set_nd_succ v l r j]
    by_cases ci:i % 2=0 <;> by_cases cj:j % 2=0
    · rw [if_pos ci] at hi; rw [if_pos cj] at hj
      rw [if_pos ci,if_pos cj,Tr.set_nd_succ,Tr.set_nd_succ,if_pos ci,if_pos cj,Tr.set_comm l (i / 2) (j / 2) a b (by omega) hi hj]
    · rw [if_pos ci,if_neg cj,Tr.set_nd_succ,Tr.set_nd_succ,if_pos ci,if_neg cj]
    · rw [if_neg ci,if_pos cj,Tr.set_nd_succ,Tr.set_nd_succ,if_neg ci,if_pos cj]
    · rw [if_neg ci] at hi; rw [if_neg cj] at hj
      rw [if_neg ci,if_neg cj,Tr.set_nd_succ,Tr.set_nd_succ,if_neg ci,if_neg cj,Tr.set_comm r (i / 2) (j / 2) a b (by omega) hi hj]
theorem Nh {h h':H} {i:Nat} {b:Blk} (e:h.put i b=some h'):h'=⟨Tr.set h.mem i b,h.next,h.base⟩:=by
  rw [H.put_eq] at e
  split at e
  · injection e with e;exact e.symm
  · cases e
theorem QcX {h h':H} {i:Nat} {b:Blk} (e:h.put i b=some h') (j:Nat) (hne:j≠i):h'.get j=h.get j:=by
  rw [Nh e,H.get_eq,H.get_eq]
  show (if j < h.next then Tr.get (Tr.set h.mem i b) j else .dead)=_
  rw [Tr.get_set,if_neg hne]
theorem put_comm {h h1 h2 h12 h21:H} {i j:Nat} {a b:Blk} (hne:i≠j) (li:(h.get i).live=true) (lj:(h.get j).live=true) (e1:h.put i a=some h1) (e12:h1.put j b=some h12) (e2:h.put j b=some h2) (e21:h2.put i a=some h21):h21=h12:=by
  have gi:Tr.get h.mem i≠.dead:=fun q=>by rw [H.get_eq,q] at li;split at li <;> cases li
  have gj:Tr.get h.mem j≠.dead:=fun q=>by rw [H.get_eq,q] at lj;split at lj <;> cases lj
  rw [Nh e21,Nh e12,Nh e1,Nh e2]
  show (⟨Tr.set (Tr.set h.mem j b) i a,h.next,h.base⟩:H)=⟨Tr.set (Tr.set h.mem i a) j b,h.next,h.base⟩
  rw [Tr.set_comm _ _ _ _ _ hne gi gj]
theorem Dd {n : Nat} {p x : AV} {h h' : H} (e : Yu n p x h = some h') : ∃ id off b, p = .ptr id off ∧ (h.get id).live = true ∧ h.put id b = some h' ∧ ∀ h2 h2', h2.get id = h.get id → Yu n p x h2 = some h2' → h2.put id b = some h2' := by
  unfold Yu at e
  split at e
  · rename_i id off
    split at e
    · rename_i mv t cs hg
      split at e
      · rename_i xs hx
        rw [Str.brec] at e
        split at e
        · rename_i c1
          rw [Str.brec] at e
          split at e
          · rename_i c2
            split at e
            · rename_i cs' hp
              refine ⟨id,off,.cells mv t cs',rfl,by rw [hg];rfl,e,fun h2 h2' h3 e2=>?_⟩
              unfold Yu at e2
              simp only [h3,hg,hx,hp,c1,c2] at e2
              exact e2
            · cases e
          · cases e
        · cases e
      · cases e
    · rename_i t fz sg s hg
      split at e
      · rename_i c
        simp only [Str.brec] at e
        split at e
        · rename_i c1
          split at e
          · rename_i c2
            split at e
            · rename_i c3
              split at e
              · rename_i c4
                refine ⟨id,off,.bytes t fz sg (s.set off c),rfl,by rw [hg];rfl,e,fun h2 h2' h3 e2=>?_⟩
                unfold Yu at e2
                simp only [h3,hg,c1,c2,c3,c4] at e2
                exact e2
              · cases e
            · cases e
          · cases e
        · cases e
      · cases e
    · cases e
  · cases e
theorem Yq (i j:Nat) (L:List Oper) (x:Nat):(QK i j L)[x]?=if j=x then L[x]?.map (fun o=>{ o with after:=o.after.push ⟨i,.data⟩ }) else L[x]?:=by
  unfold QK
  rw [List.getElem?_modify]
  cases L[x]? <;> split <;> simp
theorem Zq (i j:Nat) (L:List Oper):(QK i j L).length=L.length:=by unfold QK;simp
theorem VM {i j:Nat} {L:List Oper} {x:Nat} {o:Oper} (h:L[x]?=some o):∃ o',(QK i j L)[x]?=some o'∧o'.dst=o.dst∧o'.op=o.op∧o'.type=o.type∧o'.guard=o.guard∧(j≠x→o'=o):=by
  rw [Yq]
  split
  · rename_i e;rw [h];exact ⟨_,rfl,rfl,rfl,rfl,rfl,fun q=>absurd e q⟩
  · exact ⟨o,h,rfl,rfl,rfl,rfl,fun _=>rfl⟩
theorem addE_back {i j:Nat} {L:List Oper} {x:Nat} {o':Oper} (h:(QK i j L)[x]?=some o'):∃ o,L[x]?=some o∧o'.dst=o.dst∧o'.op=o.op∧o'.type=o.type∧o'.guard=o.guard∧(j≠x→o'=o):=by
  rw [Yq] at h
  split at h
  · rename_i e
    cases ho:L[x]? with
    | none=>rw [ho] at h;cases h
    | some o=>rw [ho] at h;injection h with h;subst h;exact ⟨o,rfl,rfl,rfl,rfl,rfl,fun q=>absurd e q⟩
  · exact ⟨o',h,rfl,rfl,rfl,rfl,fun _=>rfl⟩
def GS (L1 L2:List Oper):Prop:=∀ (x:Nat) (oj:Oper),L1[x]?=some oj→∃ oj':Oper,L2[x]?=some oj'∧oj'.dst=oj.dst
theorem sameDst_add {i j i' j':Nat} {L:List Oper}:GS (QK i j L) (QK i' j' L):=fun x oj h=>by
  obtain ⟨o,ho,hd,_⟩:=addE_back h
  obtain ⟨o',ho',hd',_⟩:=VM (i:=i') (j:=j') ho
  exact ⟨o',ho',by rw [hd,hd']⟩
theorem GrdIs.same {L1 L2:List Oper} (hs:GS L1 L2) {o:Oper} {env:List AV} {b:Bool} (g:GrdIs L1 o env b):GrdIs L2 o env b:=by
  unfold GrdIs at g ⊢
  split at g
  · exact g
  · obtain ⟨oj, d, h1, h2, h3⟩ := g
    obtain ⟨oj',h4,h5⟩:=hs _ _ h1
    exact ⟨oj',d,h4,by rw [h5];exact h2,h3⟩
theorem RunW.same {T:Ty} {G:Gam} {L1 L2:List Oper} {M1 M2:List Nat} (hs:GS L1 L2) {k:List Q2→List AV→H→Prop}:∀ {r:List Nat} {seen:List Q2} {env:List AV} {h:H},(∀ x∈r,L2[x]?=L1[x]?∧M2.getD x 0=M1.getD x 0) →
    RunW T G L1 M1 r seen env h k→RunW T G L2 M2 r seen env h k
  | [],_,_,_,_,e=>e
  | i :: r, seen, env, h, hr, e => by
    have hr':∀ x∈r,L2[x]?=L1[x]?∧M2.getD x 0=M1.getD x 0:=fun x hx=>hr x (List.mem_cons_of_mem _ hx)
    obtain ⟨e1,e2⟩:=hr i List.mem_cons_self
    unfold RunW at e ⊢
    obtain ⟨o,ho,e⟩:=e
    refine ⟨o,by rw [e1];exact ho,?_⟩
    split at e
    · rcases e with ⟨g, v, q1, q2⟩ | ⟨g, e⟩
      · exact .inl ⟨g.same hs,v,q1,q2.same hs hr'⟩
      · exact .inr ⟨g.same hs,RunW.same hs hr' e⟩
    · rw [e2]
      rcases e with ⟨g,K,q1,q2⟩ | ⟨g,e⟩
      · exact .inl ⟨g.same hs,K,q1,fun v h' q=>Zs (RunW.same hs hr') (q2 v h' q)⟩
      · exact .inr ⟨g.same hs,Zs (RunW.same hs hr') e⟩
    · rcases e with ⟨g, K, q1, q2⟩ | ⟨g, e⟩
      · exact .inl ⟨g.same hs,K,q1,fun v h' q=>(q2 v h' q).same hs hr'⟩
      · exact .inr ⟨g.same hs,RunW.same hs hr' e⟩
theorem NF {o:Oper} {p:Operand} (h:Jz o=some p):∃ t x,o.op=.store t p x∧o.guard=none∧o.dst=none:=by
  unfold Jz at h
  split at h
  · rename_i t p' x h1 h2 h3
    injection h with h;subst h
    exact ⟨t,x,h1,h2,h3⟩
  · cases h
theorem run_store {T : Ty} {G : Gam} {L : List Oper} {M : List Nat} {i : Nat} {r : List Nat} {seen : List Q2} {env : List AV} {h : H} {k : List Q2 → List AV → H → Prop} {o : Oper} {t : TypeId} {p x : Operand} (ho : L[i]? = some o) (hop : o.op = .store t p x) (hg : o.guard = none) (hd : o.dst = none) :
    RunW T G L M (i::r) seen env h k ↔ ((T t).kd.known && Nat.ble 0 (T t).size)=true∧∃ h',Yu (T t).size (ev env p) (ev env x) h=some h'∧Z3 T (M.getD i 0) h' (RunW T G L M r seen env h' k) seen:=by
  have hX:∀ {K:AV→H→Prop},opX T G o.op (ev env) h K ↔ ((T t).kd.known && Nat.ble 0 (T t).size)=true∧∃ h',Yu (T t).size (ev env p) (ev env x) h=some h'∧K .junk h':=fun {K}=>by
    rw [hop]
    show (match (T t).kd.known && Nat.ble 0 (T t).size with
      | true=>op1 (Yu (T t).size (ev env p) (ev env x) h) K
      | false=>False) ↔ _
    cases ((T t).kd.known && Nat.ble 0 (T t).size) with
    | false=>simp
    | true =>
      show op1 (Yu (T t).size (ev env p) (ev env x) h) K ↔ _
      unfold op1
      cases Yu (T t).size (ev env p) (ev env x) h with
      | none=>simp
      | some h'=>simp
  have hU:RunW T G L M (i::r) seen env h k ↔ ∃ o,L[i]?=some o∧match opC T o.op with
    | 1 => (GrdIs L o env true ∧ ∃ v, opR T o.op (ev env) h = some v ∧ RunW T G L M r (⟨i, o.op, env, v, true⟩ :: seen) (put o.dst v env) h k) ∨
        (GrdIs L o env false∧RunW T G L M r (⟨i,o.op,env,Qb,false⟩::seen) (put o.dst Qb env) h k)
    | 3 => (GrdIs L o env true ∧ ∃ K, opX T G o.op (ev env) h K ∧ ∀ v h', K v h' → Z3 T (M.getD i 0) h' (RunW T G L M r seen (put o.dst v env) h' k) seen) ∨
        (GrdIs L o env false∧Z3 T (M.getD i 0) h (RunW T G L M r seen (put o.dst Qb env) h k) seen)
    | _ => (GrdIs L o env true ∧ ∃ K, opX T G o.op (ev env) h K ∧ ∀ v h', K v h' → RunW T G L M r seen (put o.dst v env) h' k) ∨
        (GrdIs L o env false∧RunW T G L M r seen (put o.dst Qb env) h k):=Iff.rfl
  rw [hU]
  constructor
  · rintro ⟨o', ho', e⟩
    rw [ho] at ho';injection ho' with ho';subst ho'
    have c:opC T o.op=3:=by rw [hop];rfl
    rw [c] at e
    simp only at e
    rcases e with ⟨_,K,e1,e2⟩ | ⟨g,_⟩
    · obtain ⟨c1, h', c2, c3⟩ := hX.1 e1
      have:=e2 _ _ c3
      rw [hd] at this
      exact ⟨c1,h',c2,this⟩
    · unfold GrdIs at g;rw [hg] at g;cases g
  · rintro ⟨c1, h', c2, c3⟩
    refine ⟨o,ho,?_⟩
    have c:opC T o.op=3:=by rw [hop];rfl
    rw [c]
    refine .inl ⟨GrdIs.none hg,fun v h2=>v=.junk∧h2=h',hX.2 ⟨c1,h',c2,rfl,rfl⟩,?_⟩
    rintro v h2 ⟨rfl,rfl⟩
    rw [hd];exact c3
theorem run_swap {T:Ty} {G:Gam} {L1 L2:List Oper} {M1 M2:List Nat} {i j:Nat} {seen:List Q2} {env:List AV} {h:H} {k:List Q2→List AV→H→Prop} {X:Prop} {oi oj oi' oj':Oper} {t u:TypeId} {p q x y:Operand}
    (h1:L1[i]?=some oi) (h2:L1[j]?=some oj) (h3:L2[i]?=some oi') (h4:L2[j]?=some oj') (ei:oi.op=.store t p x∧oi.guard=none∧oi.dst=none) (ej:oj.op=.store u q y∧oj.guard=none∧oj.dst=none)
    (ei':oi'.op=.store t p x∧oi'.guard=none∧oi'.dst=none) (ej':oj'.op=.store u q y∧oj'.guard=none∧oj'.dst=none)
    (hne:∀ a b c d,ev env p=.ptr a c→ev env q=.ptr b d→a≠b) (e:RunW T G L2 M2 [j,i] seen env h fun _ _ _=>X) (e1:X→RunW T G L1 M1 [i,j] seen env h k):RunW T G L2 M2 [j,i] seen env h k∧X:=by
  rw [run_store h4 ej'.1 ej'.2.1 ej'.2.2] at e ⊢
  obtain ⟨c1,g2,c2,e⟩:=e
  have e0:=e
  have e:=(Yl e).1
  rw [run_store h3 ei'.1 ei'.2.1 ei'.2.2] at e
  obtain ⟨d1,g21,d2,e⟩:=e
  have hX:X:=(Yl e).1
  have f:=e1 hX
  rw [run_store h1 ei.1 ei.2.1 ei.2.2] at f
  obtain ⟨_,g1,f2,f⟩:=f
  have f:=(Yl f).1
  rw [run_store h2 ej.1 ej.2.1 ej.2.2] at f
  obtain ⟨_,g12,f3,f⟩:=f
  have f:k seen env g12:=(Yl f).1
  obtain ⟨a,oa,ba,ap,al,aput,aall⟩:=Dd f2
  obtain ⟨b,ob,bb,bp,bl,bput,ball⟩:=Dd c2
  have hab:=hne a b oa ob ap bp
  have p12:=ball g1 g12 (QcX aput b (fun e=>hab e.symm)) f3
  have p21:=aall g2 g21 (QcX bput a hab) d2
  have hh:=put_comm hab al bl aput p12 bput p21
  subst hh
  refine ⟨⟨c1,g2,c2,Zs (fun q=>?_) e0⟩,hX⟩
  rw [run_store h3 ei'.1 ei'.2.1 ei'.2.2] at q ⊢
  obtain ⟨_,g,q1,q2⟩:=q
  rw [d2] at q1;injection q1 with q1;subst q1
  exact ⟨d1,_,d2,Zs (fun _=>f) q2⟩
section
variable {P:Program} {F:Fence} {n:Nat} {ops:Array Oper} {Q:Exit→Act→World→Prop}
theorem Ko (i j:Nat) (x:Nat) (K:Act→World→Prop) (a:Act) (w:World):wpOpIn F n P (QK i j ops.toList).toArray Q x K a w=wpOpIn F n P ops Q x K a w:=by
  have hy:∀ g,yielded (QK i j ops.toList).toArray a.tmps g=yielded ops a.tmps g:=fun g=>by
    unfold yielded
    rw [List.getElem?_toArray,← Array.getElem?_toList]
    cases ho:ops.toList[g]? with
    | none=>rw [Yq,ho];simp
    | some o =>
      obtain ⟨o',h1,h2,_⟩:=VM (i:=i) (j:=j) ho
      rw [h1];simp [h2]
  have hw:∀ o:Oper,Region.wanted o (yielded (QK i j ops.toList).toArray a.tmps)=Region.wanted o (yielded ops a.tmps):=fun o=>by
    unfold Region.wanted
    split
    · rfl
    · rw [hy]
  unfold wpOpIn
  rw [List.getElem?_toArray,Yq,Array.getElem?_toList]
  cases ho:ops[x]? with
  | none=>simp
  | some o =>
    by_cases e:j=x
    · rw [if_pos e]
      show (if Region.wanted { o with after:=_ } _ then _ else _)=_
      rw [show Region.wanted { o with after:=o.after.push ⟨i,.data⟩ } (yielded (QK i j ops.toList).toArray a.tmps)=Region.wanted o (yielded ops a.tmps) from hw o]
      rfl
    · rw [if_neg e]
      show (if Region.wanted o _ then _ else _)=_
      rw [hw]
theorem Xo {i j : Nat} {listed : Array Bool} (h : listed.getD i false = true ∨ listed.getD j true = true) (x : Nat) : x ∈ Region.ready .any (QK i j ops.toList).toArray listed ↔ x ∈ Region.ready .any ops listed := by
  rw [mem_ready,mem_ready]
  refine and_congr_right fun hx=>?_
  rw [List.getElem?_toArray,Yq,Array.getElem?_toList]
  by_cases e:j=x
  · subst e
    have hi:listed.getD i false=true:=by
      rcases h with h | h
      · exact h
      · rw [hx] at h;cases h
    rw [if_pos rfl]
    constructor
    · rintro ⟨o', ho', hall⟩
      cases ho:ops[j]? with
      | none=>rw [ho] at ho';cases ho'
      | some o =>
        rw [ho] at ho';injection ho' with ho';subst ho'
        exact ⟨o,rfl,fun e he=>hall e (by simp [he])⟩
    · rintro ⟨o, ho, hall⟩
      rw [ho]
      refine ⟨_,rfl,fun e he hb=>?_⟩
      rcases Array.mem_push.1 he with he | he
      · exact hall e he hb
      · subst he;exact hi
  · rw [if_neg e]
theorem ready_sub {i j:Nat} {listed:Array Bool} {x:Nat} (h:x∈Region.ready .any (QK i j ops.toList).toArray listed):x∈Region.ready .any ops listed:=by
  rw [mem_ready] at h ⊢
  obtain ⟨h1,o',h2,h3⟩:=h
  rw [List.getElem?_toArray] at h2
  rw [Yq,Array.getElem?_toList] at h2
  refine ⟨h1,?_⟩
  split at h2
  · cases ho : ops[x]? with
    | none=>rw [ho] at h2;cases h2
    | some o =>
      rw [ho] at h2;injection h2 with h2;subst h2
      exact ⟨o,rfl,fun e he=>h3 e (by simp [he])⟩
  · exact ⟨o',h2,h3⟩
theorem Dj {i j:Nat} {listed:Array Bool} {x:Nat} (hne:x≠j) (h:x∈Region.ready .any ops listed):x∈Region.ready .any (QK i j ops.toList).toArray listed:=by
  rw [mem_ready] at h ⊢
  obtain ⟨h1,o',h2,h3⟩:=h
  refine ⟨h1,o',?_,h3⟩
  rw [List.getElem?_toArray,Yq,Array.getElem?_toList,if_neg (fun e=>hne e.symm)]
  exact h2
theorem set_true {listed:Array Bool} {x y:Nat} (h:listed.getD y false=true):(listed.setIfInBounds x true).getD y false=true:=by
  by_cases hx:x=y
  · subst hx
    by_cases hl:x < listed.size
    · simp [hl]
    · simp [hl] at h
  · rw [getD_set_ne false hx];exact h
theorem QaR {i j:Nat}:∀ (fuel:Nat) (listed:Array Bool) (a:Act) (w:World),listed.getD i false=true→wpAnyIn F n P .any (QK i j ops.toList).toArray Q fuel listed a w→wpAnyIn F n P .any ops Q fuel listed a w
  | 0, listed, a, w, hi, h => by
    obtain ⟨h1,h2⟩:=h
    refine ⟨?_,h2⟩
    rw [List.eq_nil_iff_forall_not_mem] at h1 ⊢
    exact fun x hx=>h1 x ((Xo (.inl hi) x).2 hx)
  | fuel + 1, listed, a, w, hi, h => by
    obtain ⟨h1,h2⟩:=h
    refine ⟨fun hr=>h1 ?_,fun x hx=>?_⟩
    · rw [List.eq_nil_iff_forall_not_mem] at hr ⊢
      exact fun x hx=>hr x ((Xo (.inl hi) x).1 hx)
    · have := h2 x ((Xo (.inl hi) x).2 hx)
      rw [Ko] at this
      exact wpOpIn_mono (fun a w q=>QaR fuel _ a w (set_true hi) q) this
end
theorem two_some {T : Ty} {L : List Oper} {i j : Nat} {C : List Nat} {p q : Operand} (h : two T L = some (i, j, C, p, q)) : ∃ oi oj, L[i]? = some oi ∧ L[j]? = some oj ∧ Jz oi = some p ∧ Jz oj = some q ∧ QcJ T L i j C = true := by
  unfold two at h
  split at h
  · split at h
    · split at h
      · split at h
        · injection h with h; injection h with e1 h; injection h with e2 h; injection h with e3 h; injection h with e4 e5
          subst e1 e2 e3 e4 e5
          exact ⟨_,_,by assumption,by assumption,by assumption,by assumption,by assumption⟩
        · cases h
      · cases h
    · cases h
  · cases h
structure Both (T:Ty) (L:List Oper) (i j:Nat) (C:List Nat):Prop where
  od1:Ord T (QK i j L) (Qx (QK i j L) []) (C++[i,j])
  od2:Ord T (QK j i L) (Qx (QK j i L) []) (C++[j,i])
  msk:∀ x∈C,(Qx (QK j i L) []).getD x 0=(Qx (QK i j L) []).getD x 0
theorem twoOk_both {T:Ty} {L:List Oper} {i j:Nat} {C:List Nat} (h:QcJ T L i j C=true):Both T L i j C:=by
  unfold QcJ at h
  rw [Bool.and_eq_true,Bool.and_eq_true,List.all_eq_true] at h
  exact ⟨U5 h.1.1,U5 h.1.2,fun x hx=>((Nat.beq_eq ..).mp (h.2 x hx)).symm⟩
section
variable {T:Ty} {L:List Oper} {i j:Nat} {C:List Nat} (bo:Both T L i j C)
include bo
theorem Both.len:L.length=C.length+2:=by
  have:=bo.od1.len
  rw [Zq] at this
  simpa using this.symm
theorem Both.at1:(C++[i,j]).idxOf i=C.length∧i < L.length:=by
  have h:=bo.od1.pos C.length (by rw [Zq,bo.len];omega)
  rw [Zq] at h
  simpa [List.getD_eq_getElem?_getD] using h
theorem Both.at2:(C++[i,j]).idxOf j=C.length+1∧j < L.length:=by
  have h:=bo.od1.pos (C.length+1) (by rw [Zq,bo.len];omega)
  rw [Zq] at h
  simpa [List.getD_eq_getElem?_getD,List.getElem?_append_right] using h
theorem Both.ne:i≠j:=fun e=>by
  have h1:=bo.at1.1
  have h2:=bo.at2.1
  rw [e] at h1 h2
  omega
theorem Both.ci {x:Nat} (hx:x∈C):x≠i∧x≠j:=by
  have key:(C++[i,j]).idxOf x < C.length:=by
    rw [List.idxOf_append,if_pos hx];exact List.idxOf_lt_length_of_mem hx
  refine ⟨fun e=>?_,fun e=>?_⟩
  · subst e;rw [bo.at1.1] at key;omega
  · subst e;rw [bo.at2.1] at key;omega
theorem Both.mem {x:Nat} (hx:x < L.length) (hi:x≠i) (hj:x≠j):x∈C:=by
  have h:=bo.od1.lt x (by rw [Zq];exact hx)
  rw [Zq,bo.len] at h
  have:=List.idxOf_lt_length_iff.1 (show (C++[i,j]).idxOf x < (C++[i,j]).length by simpa using h)
  rw [List.mem_append] at this
  rcases this with h | h
  · exact h
  · simp at h; rcases h with h | h
    · exact absurd h hi
    · exact absurd h hj
theorem Both.idx {x:Nat} (hx:x∈C):(C++[i,j]).idxOf x < C.length∧(C++[j,i]).idxOf x=(C++[i,j]).idxOf x:=by
  rw [List.idxOf_append,if_pos hx,List.idxOf_append,if_pos hx]
  exact ⟨List.idxOf_lt_length_of_mem hx,rfl⟩
end
theorem Qdt {C D:List Nat} {p:Nat} (h:p < C.length):(C++D).getD p 0=C.getD p 0:=by
  simp [List.getD_eq_getElem?_getD,List.getElem?_append_left h]
theorem getD_mem {C:List Nat} {p:Nat} (h:p < C.length):C.getD p 0∈C:=by
  simp [List.getD_eq_getElem?_getD,h]
section
variable {T:Ty} {G:Gam} {ops:Array Oper} {i j:Nat} {C:List Nat} (bo:Both T ops.toList i j C) {env0:List AV} {h0:H} {k:List Q2→List AV→H→Prop} {A B:List Q2→List AV→H→Prop} {μ0 μ:Mu} {w0 w:World} {a0 a:Act} {D:Nat→Prop}
include bo
theorem to_one {o:Oper} (hoi:ops.toList[i]?=some o) (hs:opC T o.op=3) (hA:∀ s e h,A s e h→RunW T G (QK i j ops.toList) (Qx (QK i j ops.toList) []) [i,j] s e h k)
    (at':At T G (QK i j ops.toList).toArray (Qx (QK i j ops.toList) []) (C++[i,j]) C.length env0 h0 A μ0 w0 a0 D a w μ) :
    At T G (QK i j ops.toList).toArray (Qx (QK i j ops.toList) []) (C++[i,j]) (QK i j ops.toList).length env0 h0 k μ0 w0 a0 D a w μ:=by
  obtain ⟨q,X,hqN,tr,⟨seen,hrun,hseen⟩,iv,hmax⟩:=at'
  have hl:=bo.len
  refine ⟨q,X,by rw [Zq];omega,tr,⟨seen,?_,hseen⟩,iv,fun hq=>?_⟩
  · rw [List.take_of_length_le (by rw [Zq, hl]; simp), List.drop_append_of_le_length hqN]
    rw [List.take_left] at hrun
    exact (hrun.mono hA).app
  · rcases Nat.lt_or_ge q C.length with h | h
    · exact hmax h
    · have : q = C.length := by omega
      subst this
      obtain ⟨e1,e2⟩:=tr.idx C.length (by simp)
      have e3:(C++[i,j]).getD C.length 0=i:=by simp [List.getD_eq_getElem?_getD]
      rw [e1,e3] at e2
      obtain ⟨o',h1,_,h2,_⟩:=VM (i:=i) (j:=j) hoi
      have e2:(QK i j ops.toList)[i]?=some (X C.length).o:=e2
      rw [h1] at e2;injection e2 with e2;subst e2
      rw [h2];exact hs
theorem to_two {o : Oper} (hoj : ops.toList[j]? = some o) (hs : opC T o.op = 3) (hA : ∀ s e h, A s e h → RunW T G (QK j i ops.toList) (Qx (QK j i ops.toList) []) [j, i] s e h k) (hDi : ¬ D i) (hDj : ¬ D j)
    (at':At T G (QK i j ops.toList).toArray (Qx (QK i j ops.toList) []) (C++[i,j]) C.length env0 h0 A μ0 w0 a0 D a w μ) :
    At T G (QK j i ops.toList).toArray (Qx (QK j i ops.toList) []) (C++[j,i]) (QK j i ops.toList).length env0 h0 k μ0 w0 a0 D a w μ:=by
  obtain ⟨q,X,hqN,tr,⟨seen,hrun,hseen⟩,iv,hmax⟩:=at'
  have hl:=bo.len
  have hsame:GS (QK i j ops.toList) (QK j i ops.toList):=sameDst_add
  have hC:∀ x∈C,(QK j i ops.toList)[x]?=(QK i j ops.toList)[x]?:=fun x hx=>by
    have:=bo.ci hx
    rw [Yq,Yq,if_neg (fun e=>this.1 e.symm),if_neg (fun e=>this.2 e.symm)]
  obtain ⟨Y,hY⟩:∃ Y:Nat→Rec,Y=fun p=>if p < C.length then X p else { X p with i:=(C++[j,i]).getD p 0,o:=((QK j i ops.toList)[(C++[j,i]).getD p 0]?).getD default }:=⟨_,rfl⟩
  have ylt:∀ p,p < C.length→Y p=X p:=fun p hp=>by rw [hY];exact if_pos hp
  have yh:∀ p,(Y p).h=(X p).h:=fun p=>by rw [hY];dsimp only;split <;> rfl
  have ye:∀ p,(Y p).env=(X p).env:=fun p=>by rw [hY];dsimp only;split <;> rfl
  have trY:Trk T (QK j i ops.toList) (C++[j,i]) env0 h0 Y q:=by
    refine ⟨fun p hp=>?_,by rw [ye];exact tr.zenv,by rw [yh];exact tr.zh,fun p hp=>?_,fun p hp=>?_,fun p hp=>?_,fun p hp=>?_,fun p hp=>?_,fun p hp=>?_⟩
    · rcases Nat.lt_or_ge p C.length with h | h
      · rw [ylt p h]
        obtain ⟨e1,e2⟩:=tr.idx p (by simp;omega)
        rw [Qdt h] at e1
        refine ⟨by rw [e1,Qdt h],?_⟩
        rw [hC _ (by rw [e1];exact getD_mem h)];exact e2
      · rw [hY]
        dsimp only
        rw [if_neg (by omega)]
        refine ⟨rfl,?_⟩
        have hlt:=(bo.od2.pos p (by rw [Zq];simp at hp;omega)).2
        show (QK j i ops.toList)[(C++[j,i]).getD p 0]?=_
        rw [List.getElem?_eq_getElem hlt];rfl
    · rw [ylt p (by omega)];exact (tr.grd p hp).same hsame
    · rw [ylt p (by omega),yh];exact tr.skip p hp
    · rw [ylt p (by omega),yh];exact tr.run0 p hp
    · rw [ylt p (by omega),yh];exact tr.run1 p hp
    · rw [ylt p (by omega),yh];exact tr.run2 p hp
    · rw [ye,ylt p (by omega)];exact tr.env p hp
  have ivY:=iv.congr (Y:=Y) (fun p hp=>ylt p (by omega)) (yh q)
  have hll:(QK j i ops.toList).length=(QK i j ops.toList).length:=by rw [Zq,Zq]
  refine ⟨q,Y,by rw [Zq];omega,trY,⟨seen,?_,fun p hp=>by rw [ylt p (by omega)];exact hseen p hp⟩,?_,fun hq=>?_⟩
  · rw [List.take_of_length_le (by rw [Zq, hl]; simp), List.drop_append_of_le_length hqN, ye, yh]
    rw [List.take_left] at hrun
    exact (RunW.same hsame (fun x hx=>⟨hC x (List.mem_of_mem_drop hx),bo.msk x (List.mem_of_mem_drop hx)⟩) (hrun.mono hA)).app
  · refine ⟨by rw [hll]; exact ivY.qn, ivY.ws, fun x hx hd => ?_, ivY.post, ivY.defers, ivY.size, ivY.tmp, ivY.mono, ivY.load, ivY.made⟩
    have hx:x < ops.toList.length:=by rw [← Zq j i ops.toList];exact hx
    have hxc:=bo.mem hx (fun e=>hDi (e ▸ hd)) (fun e=>hDj (e ▸ hd))
    rw [(bo.idx hxc).2]
    exact ivY.dq x (by show x < (QK i j ops.toList).length;rw [Zq];exact hx) hd
  · rcases Nat.lt_or_ge q C.length with h | h
    · rw [ylt q h];exact hmax h
    · have : q = C.length := by omega
      subst this
      obtain ⟨e1,e2⟩:=trY.idx C.length (by simp)
      have e3:(C++[j,i]).getD C.length 0=j:=by simp [List.getD_eq_getElem?_getD]
      rw [e1,e3] at e2
      obtain ⟨o',h1,_,h2,_⟩:=VM (i:=j) (j:=i) hoj
      rw [h1] at e2;injection e2 with e2;subst e2
      rw [h2];exact hs
end
section
variable {P:Program} {T:Ty} (hT:YN P T) {G:Gam} (hG:Wm P G) {F:Fence} (hF:WideF F) {n:Nat} {ops:Array Oper} {i j:Nat} {C:List Nat} (bo:Both T ops.toList i j C)
  {env0:List AV} {h0:H} {k:List AV→H→Prop} {A:List Q2→List AV→H→Prop} {μ0:Mu} {w0:World} {a0:Act} {Q:Exit→Act→World→Prop}
include hT hG hF bo
theorem two_mid {oi oj : Oper} (hoi : ops.toList[i]? = some oi) (hoj : ops.toList[j]? = some oj) (hsi : opC T oi.op = 3) (hsj : opC T oj.op = 3)
    (hA1:∀ s e h,A s e h→RunW T G (QK i j ops.toList) (Qx (QK i j ops.toList) []) [i,j] s e h fun _=>k) (hA2:∀ s e h,A s e h→RunW T G (QK j i ops.toList) (Qx (QK j i ops.toList) []) [j,i] s e h fun _=>k)
    (hq:∀ μ' env' h' a' w',Post μ0 h0 w0 μ' h' w'→EnvRel μ' env' a'.tmps→a'.defers=a0.defers→k env' h'→env'.length=env0.length→Q .normal a' w') :
    ∀ (fuel : Nat) (listed : Array Bool) (a : Act) (w : World) (μ : Mu), listed.size = ops.size → ((List.range ops.size).filter fun i => listed.getD i false == false).length ≤ fuel → listed.getD i false = false → listed.getD j false = false →
      At T G (QK i j ops.toList).toArray (Qx (QK i j ops.toList) []) (C++[i,j]) C.length env0 h0 A μ0 w0 a0 (fun i=>listed.getD i false=true) a w μ→QaX (QK i j ops.toList) (fun i=>listed.getD i false=true) →
      wpAnyIn F n P .any ops Q fuel listed a w:=by
  have an1:=KG (QK i j ops.toList) (QK i j ops.toList) [] rfl (fun j i hb=>by simp at hb)
  have an2:=KG (QK j i ops.toList) (QK j i ops.toList) [] rfl (fun j i hb=>by simp at hb)
  have hlen:ops.toList.length=ops.size:=by simp
  have hil:i < ops.size:=by rw [← hlen];exact bo.at1.2
  have hjl:j < ops.size:=by rw [← hlen];exact bo.at2.2
  have s1:(QK i j ops.toList).toArray.size=ops.size:=by simp [Zq]
  have s2:(QK j i ops.toList).toArray.size=ops.size:=by simp [Zq]
  intro fuel
  induction fuel with
  | zero =>
    intro listed a w μ hs hf hi hj at_ hdown
    exfalso
    have:i∈(List.range ops.size).filter fun i=>listed.getD i false == false:=by
      rw [List.mem_filter,List.mem_range];exact ⟨hil,by rw [hi];rfl⟩
    have:=List.length_pos_of_mem this;omega
  | succ fuel ih =>
    intro listed a w μ hs hf hi hj at_ hdown
    have at1:=to_one bo hoi hsi hA1 at_
    have at2:=to_two bo hoj hsj hA2 (by rw [hi];simp) (by rw [hj];simp) at_
    have down2:QaX (QK j i ops.toList) (fun i=>listed.getD i false=true):=fun x ox d hx hox hd=>by
      refine hdown x ox d hx ?_ hd
      have hxi:x≠i:=fun e=>by rw [e,hi] at hx;cases hx
      have hxj:x≠j:=fun e=>by rw [e,hj] at hx;cases hx
      rw [Yq,if_neg (fun e=>hxi e.symm)] at hox
      rw [Yq,if_neg (fun e=>hxj e.symm)];exact hox
    have any1:=Qcz (ops:=(QK i j ops.toList).toArray) hT hG hF bo.od1 an1 (n:=n) (Q:=Q) (fun a' w' μ'=>Qcw (ops:=(QK i j ops.toList).toArray) bo.od1 hq) (fuel+1) listed a w μ (by rw [s1];exact hs) (by rw [s1];exact hf) at1 hdown
    have any2:=Qcz (ops:=(QK j i ops.toList).toArray) hT hG hF bo.od2 an2 (n:=n) (Q:=Q) (fun a' w' μ'=>Qcw (ops:=(QK j i ops.toList).toArray) bo.od2 hq) (fuel+1) listed a w μ (by rw [s2];exact hs) (by rw [s2];exact hf) at2 down2
    have hset:∀ x y,x < ops.size→((listed.setIfInBounds x true).getD y false=true ↔ (listed.getD y false=true∨y=x)):=by
      intro x y hx
      have hxl:x < listed.size:=by omega
      by_cases e:x=y
      · subst e;simp [hxl]
      · rw [getD_set_ne false e]
        constructor
        · exact .inl
        · rintro (h | h)
          · exact h
          · exact absurd h.symm e
    refine ⟨fun hr=>any1.1 ?_,fun x hx=>?_⟩
    · rw [List.eq_nil_iff_forall_not_mem] at hr ⊢
      exact fun x hx=>hr x (ready_sub hx)
    · by_cases exi : x = i
      · subst exi
        have:=any1.2 x (Dj bo.ne hx)
        rw [Ko] at this
        exact wpOpIn_mono (fun a w q=>QaR fuel _ a w ((hset x x hil).2 (.inr rfl)) q) this
      · by_cases exj : x = j
        · subst exj
          have:=any2.2 x (Dj bo.ne.symm hx)
          rw [Ko] at this
          exact wpOpIn_mono (fun a w q=>QaR fuel _ a w ((hset x x hjl).2 (.inr rfl)) q) this
        · obtain ⟨g0, o, ho, hall⟩ := mem_ready.1 hx
          have hxl:x < ops.size:=(Array.getElem?_eq_some_iff.1 ho).1
          have hfalse:listed.getD x false=false:=by
            have:x < listed.size:=by omega
            simp [this] at g0 ⊢;exact g0
          have hox:(QK i j ops.toList).toArray[x]?=some o:=by
            rw [List.getElem?_toArray,Yq,if_neg (fun e=>exj e.symm),Array.getElem?_toList];exact ho
          have hdeps:∀ d∈UC o,listed.getD d false=true:=fun d hd=>by
            unfold UC at hd
            rw [List.mem_filterMap] at hd
            obtain ⟨e,he,hb⟩:=hd
            split at hb
            · injection hb with hb;subst hb;exact hall e (by simpa using he) (by assumption)
            · cases hb
          have hsetEq:(fun y=>(listed.setIfInBounds x true).getD y false=true)=(fun y=>listed.getD y false=true∨y=x):=funext fun y=>propext (hset x y hxl)
          rw [← Ko (ops:=ops) i j x]
          refine Qa6 (ops:=(QK i j ops.toList).toArray) hT hG hF bo.od1 an1 (by show C.length≤(QK i j ops.toList).length;rw [Zq,bo.len];omega) at_ hdown hox (bo.idx (bo.mem (by rw [hlen];exact hxl) exi exj)).1 (by rw [hfalse];simp) hdeps fun a' w' μ' at'=>?_
          refine ih (listed.setIfInBounds x true) a' w' μ' (by simpa using hs) ?_ ?_ ?_ (by rw [hsetEq];exact at') ?_
          · have := Gm (l := List.range ops.size) (p := fun i => listed.getD i false == false) (p' := fun y => (listed.setIfInBounds x true).getD y false == false) (i := x) (by simpa using hxl) (fun y hy => by
              cases hl:listed.getD y false with
              | false=>rfl
              | true =>
                rw [beq_iff_eq] at hy
                have:=(hset x y hxl).2 (.inl hl)
                rw [hy] at this;cases this) (by rw [hfalse];rfl) (by
              have:=(hset x x hxl).2 (.inr rfl);rw [this];rfl)
            omega
          · cases hl : (listed.setIfInBounds x true).getD i false with
            | false=>rfl
            | true =>
              rcases (hset x i hxl).1 hl with h | h
              · rw [hi] at h;cases h
              · exact absurd h.symm exi
          · cases hl : (listed.setIfInBounds x true).getD j false with
            | false=>rfl
            | true =>
              rcases (hset x j hxl).1 hl with h | h
              · rw [hj] at h;cases h
              · exact absurd h.symm exj
          · intro y oy d hy hoy hd
            rw [hset x _ hxl] at hy ⊢
            rcases hy with hy | hy
            · exact .inl (hdown y oy d hy hoy hd)
            · subst hy
              have hoy:(QK i j ops.toList).toArray[y]?=some oy:=by rw [List.getElem?_toArray];exact hoy
              rw [hox] at hoy;injection hoy with hoy;subst hoy
              exact .inl (hdeps d hd)
end
theorem draw_two {P:Program} {T:Ty} (hT:YN P T) {G:Gam} (hG:Wm P G) {F:Fence} (hF:WideF F) {n:Nat} {ops:Array Oper} {i j:Nat} {C:List Nat} {p q:Operand} {k:List AV→H→Prop} {Q:Exit→Act→World→Prop} {env:List AV} {h:H} {μ:Mu} {a:Act} {w:World}
    (hok:two T ops.toList=some (i,j,C,p,q))
    (hrun:QB T G (QK i j ops.toList) (Qx (QK i j ops.toList) []) C [] env h fun seen env h=>asPtr (ev env p) fun a _=>asPtr (ev env q) fun b _=>ck (Bool.not (Nat.beq a b))
      (QB T G (QK j i ops.toList) (Qx (QK j i ops.toList) []) [j,i] seen env h fun _ _ _=>QB T G (QK i j ops.toList) (Qx (QK i j ops.toList) []) [i,j] seen env h fun _ env h=>k env h))
    (he:EnvRel μ env a.tmps) (hR:Rel μ h w)
    (hq:∀ μ' env' h' a' w',Post μ h w μ' h' w'→EnvRel μ' env' a'.tmps→a'.defers=a.defers→k env' h'→env'.length=env.length→Q .normal a' w') :
    wpAnyIn F n P .any ops Q ops.size (Array.replicate ops.size false) a w:=by
  obtain ⟨oi,oj,hoi,hoj,hpi,hqj,htwo⟩:=two_some hok
  have bo:=twoOk_both htwo
  obtain ⟨t,x,ei⟩:=NF hpi
  obtain ⟨u,y,ej⟩:=NF hqj
  obtain ⟨o1i,a1,a2,a3,a4,a5,_⟩:=VM (i:=i) (j:=j) hoi
  obtain ⟨o1j,b1,b2,b3,b4,b5,_⟩:=VM (i:=i) (j:=j) hoj
  obtain ⟨o2i,c1,c2,c3,c4,c5,_⟩:=VM (i:=j) (j:=i) hoi
  obtain ⟨o2j,d1,d2,d3,d4,d5,_⟩:=VM (i:=j) (j:=i) hoj
  have hfin:=Yx hrun
  have nof:∀ i,(Array.replicate ops.size false).getD i false=false:=fun i=>by
    by_cases h:i < ops.size <;> simp [h]
  refine two_mid hT hG hF bo hoi hoj (by rw [ei.1];rfl) (by rw [ej.1];rfl) (A:=fun s e h=>RunW T G (QK j i ops.toList) (Qx (QK j i ops.toList) []) [j,i] s e h (fun _=>k)∧RunW T G (QK i j ops.toList) (Qx (QK i j ops.toList) []) [i,j] s e h fun _=>k)
    (fun s e h q=>q.2) (fun s e h q=>q.1) hq ops.size _ a w μ (by simp) (by refine Nat.le_trans (List.length_filter_le _ _) (by simp)) (nof i) (nof j) ?_ (fun x ox d hx=>by have hx:(Array.replicate ops.size false).getD x false=true:=hx;rw [nof] at hx;cases hx)
  have hfin2:RunW T G (QK i j ops.toList) (Qx (QK i j ops.toList) []) C [] env h (fun s e h=>RunW T G (QK j i ops.toList) (Qx (QK j i ops.toList) []) [j,i] s e h (fun _=>k)∧RunW T G (QK i j ops.toList) (Qx (QK i j ops.toList) []) [i,j] s e h fun _=>k):=hfin.mono fun s e h r=>by
    rw [asPtr_iff] at r
    obtain ⟨pa,po,hp,r⟩:=r
    rw [asPtr_iff] at r
    obtain ⟨pb,pb2,hq',r⟩:=r
    rw [QN] at r
    obtain ⟨hne,r⟩:=r
    have hne:pa≠pb:=fun e=>by subst e;simp at hne
    have r:=Yx r
    have hX:∀ {X:Prop},RunW T G (QK j i ops.toList) (Qx (QK j i ops.toList) []) [j,i] s e h (fun _ _ _=>X)→X:=fun {X} r=>by
      rw [run_store d1 (d3.trans ej.1) (d5.trans ej.2.1) (d2.trans ej.2.2)] at r
      obtain ⟨_,_,_,r⟩:=r
      have r:=(Yl r).1
      rw [run_store c1 (c3.trans ei.1) (c5.trans ei.2.1) (c2.trans ei.2.2)] at r
      obtain ⟨_,_,_,r⟩:=r
      exact (Yl r).1
    refine ⟨(run_swap a1 b1 c1 d1 ⟨a3.trans ei.1,a5.trans ei.2.1,a2.trans ei.2.2⟩ ⟨b3.trans ej.1,b5.trans ej.2.1,b2.trans ej.2.2⟩ ⟨c3.trans ei.1,c5.trans ei.2.1,c2.trans ei.2.2⟩ ⟨d3.trans ej.1,d5.trans ej.2.1,d2.trans ej.2.2⟩ (fun a b c d e1 e2=>?_) r Yx).1,Yx (hX r)⟩
    rw [hp] at e1;rw [hq'] at e2
    injection e1 with e1 _;injection e2 with e2 _
    subst e1 e2;exact hne
  have:=Qb2 (ops:=(QK i j ops.toList).toArray) bo.od1 (N:=C.length) (by show C.length≤(QK i j ops.toList).length;rw [Zq,bo.len];omega) (by rw [List.take_left];exact hfin2) he hR
  have e0:(Array.replicate (QK i j ops.toList).toArray.size false)=Array.replicate ops.size false:=by simp [Zq]
  rw [e0] at this
  exact this
end Go.Am
namespace Go.Am
open Go
theorem Y8 {P:Program} {c:Code} {b:Go.Frame} {a:Act} {k:List Item} {cs:List Go.Frame} {w:World}:step P (lone (b.atR a (.code (.scope c)::k)) cs w)=.next (lone (b.atR a (.code c::.inScope c::k)) cs w) :=
  step_lone_go (by simp [stepG,stepG.exec,Frame.atR])
theorem stepR_inScope {P:Program} {c:Code} {b:Go.Frame} {a:Act} {k:List Item} {cs:List Go.Frame} {w:World}:step P (lone (b.atR a (.inScope c::k)) cs w)=.next (lone (b.atR a k) cs w) :=
  step_lone_go (by simp [stepG,stepG.exec,Frame.atR])
theorem wpIn_scope_straight {F:Fence} {n:Nat} {P:Program} {x:Code} {Q:Exit→Act→World→Prop} {a:Act} {w:World} (h:x.wpIn F n P Q a w) (hg:∀ l a w,¬ Q (.goto l) a w):(Code.scope x).wpIn F n P Q a w:=by
  intro b k cs hro hb hr
  have h0:(lone (b.atR a (.code (.scope x)::k)) cs w).fenced P F:=fenced_calm hb hr rfl
  obtain ⟨ex,a₁,w₁,hq,harr⟩:=h b (.inScope x::k) cs hro hb hr
  cases ex with
  | normal=>exact ⟨.normal,a₁,w₁,hq,.head h0 Y8 (StepsIn.trans harr (.one (fenced_calm hb hr rfl) stepR_inScope))⟩
  | exit id =>
    have hx:exitTo id (.inScope x::k)=exitTo id k:=by simp [exitTo]
    exact ⟨.exit id,a₁,w₁,hq,fun k' hk=>.head h0 Y8 (harr.1 k' (by rw [hx];exact hk)),
      fun hr' hk=>let ⟨k₁,h1,h2⟩:=harr.2 hr' (by rw [hx];exact hk);⟨k₁,h1,.head h0 Y8 h2⟩⟩
  | goto l=>exact absurd hq (hg _ _ _)
  | ret=>exact ⟨_,a₁,w₁,hq,.of_steps (.one h0 Y8) harr⟩
  | panic ch=>exact ⟨_,a₁,w₁,hq,.of_steps (.one h0 Y8) harr⟩
  | outgrown=>exact ⟨_,a₁,w₁,hq,.of_steps (.one h0 Y8) harr⟩
theorem W8:∀ (n i:Nat) (L:List Nat) (v:Tup L),(Yv n i L v).length=n
  | 0,_,_,_=>rfl
  | n+1,i,[],v=>by simp [Yv,W8 n]
  | n + 1, i, t :: L, v => by
    unfold Yv
    split <;> simp [W8 n]
theorem Jx (e : List AV) : ∀ (n i : Nat) (L : List Nat) (j : Nat), (Yv n i L (UQ L e)).getD j .junk = e.getD (i + j) .junk ∨ (Yv n i L (UQ L e)).getD j .junk = .junk
  | 0,_,_,_=>.inr rfl
  | n + 1, i, [], j => by
    cases j with
    | zero=>exact .inr rfl
    | succ j =>
      have:=Jx e n (i+1) [] j
      simp only [Yv,List.getD_cons_succ]
      rwa [show i+1+j=i+(j+1) from by omega] at this
  | n + 1, i, t :: L, j => by
    unfold Yv
    split
    · rename_i h
      rw [Nat.beq_eq] at h;subst h
      cases j with
      | zero=>exact .inl (by show Wi .junk e i=_;rw [Z5];rfl)
      | succ j =>
        have:=Jx e n (i+1) L j
        simp only [List.getD_cons_succ]
        rwa [show i+1+j=i+(j+1) from by omega] at this
    · cases j with
      | zero=>exact .inr rfl
      | succ j =>
        have:=Jx e n (i+1) (t::L) j
        simp only [List.getD_cons_succ]
        rwa [show i+1+j=i+(j+1) from by omega] at this
theorem EnvRel.mkE {μ:Mu} {e:List AV} {t:Array Value} (h:EnvRel μ e t) {n:Nat} (hn:e.length=n) (L:List Nat):EnvRel μ (Yv n 0 L (UQ L e)) t:=by
  refine ⟨fun j=>?_,by rw [W8,← hn];exact h.len⟩
  rcases Jx e n 0 L j with h1 | h1
  · rw [h1,Nat.zero_add];exact h.get j
  · rw [h1];simp [AV.rel]
def LeftN (n:Nat) (K:Ks) (μ:Mu) (h:H) (w:World) (e:Exit) (a':Act) (w':World):Prop :=
  ∃ μ' env' ds' h',St μ h w μ' env' ds' h' a' w'∧Ux K e env' ds' h'∧env'.length=n
theorem LeftN.left {n:Nat} {K:Ks} {μ:Mu} {h:H} {w:World} {e:Exit} {a':Act} {w':World} (hx:LeftN n K μ h w e a' w'):Left K μ h w e a' w':=by
  obtain ⟨μ2,env2,ds2,h2,s2,l2,_⟩:=hx
  exact ⟨μ2,env2,ds2,h2,s2,l2⟩
theorem LeftN.after {n:Nat} {K K':Ks} {μ μ':Mu} {h h':H} {w w' w'':World} {a'':Act} {e:Exit} (hp:Post μ h w μ' h' w') (hx:LeftN n K μ' h' w' e a'' w'') (hK:∀ env ds h,Ux K e env ds h→Ux K' e env ds h):LeftN n K' μ h w e a'' w'':=by
  obtain ⟨μ2,env2,ds2,h2,s2,l2,n2⟩:=hx
  exact ⟨μ2,env2,ds2,h2,⟨hp.trans s2.post,s2.env,s2.defers⟩,hK _ _ _ l2,n2⟩
section
variable {P:Program} {T:Ty} (hT:YN P T) (hm:P.follows .mixedOrders=true)
theorem endRange_ok {F:Fence} (hF:WideF F) {m n:Nat} {K:Ks} {env:List AV} {ds:List Dfr} {h h3:H} {w w3:World} {μ μ3:Mu} {a:Act} {id0 id1 l:Nat} (q:Vu id0 id1 K env ds h3) (post:Post μ h w μ3 h3 w3) (m30:μ3 id0=some (l,0)) (m3:μ3 id1=some (l+1,0))
    (he:EnvRel μ3 env a.tmps) (hn:env.length=n) (hd:DfrRel μ3 ds a.defers):∃ jump w4,(Instr.endLoop (l+1)).run P w3=.ok jump w4∧(match jump with
      | none=>LeftN n K μ h w .normal { a with defers:=[{ target:=.collected l,args:=#[] }]++a.defers } w4
      | some c=>c.wpIn F m P (LeftN n K μ h w) { a with defers:=[{ target:=.collected l,args:=#[] }]++a.defers } w4):=by
  unfold Vu at q
  have hb:=post.rel.blk id1 _ _ m3
  split at q
  · exact q.elim
  · rename_i st pend ps' a' b' env' hnb hg
    rw [hg] at hb
    obtain ⟨_,rr,hh,b1,b2,_⟩:=hb
    obtain ⟨s0,p0,ps0,a0,bd0,env0,h4,g1,g2,q⟩:=Up q
    rw [hg] at g1;injection g1 with g1 g3 g4 g5 g6 g7;subst g1 g3 g4 g5 g6 g7
    obtain ⟨rr',hh',s1,s2,hpost4⟩:=XC post.rel m3 hg g2
    rw [hh] at hh';injection hh' with hh';injection hh' with hh';subst hh'
    have hbusy:rr.state≠.busy:=fun hc=>by
      rw [b1] at hc;subst hc
      first | exact hnb | exact hnb rfl | exact hnb _ _ _ _ _ rfl
    obtain ⟨wE,hwE⟩:∃ wE,wE=w3.putObj (l+1) (.loop { rr with state:=.exhausted }):=⟨_,rfl⟩
    have hend:(Instr.endLoop (l+1)).run P w3=.ok pend wE:=by rw [hwE,← s2];exact run_endLoop hh hbusy
    refine ⟨pend,wE,hend,?_⟩
    have post4:=hpost4 { rr with state:=.exhausted } (by rw [← s2])
    have hds:DfrRel μ3 (.coll id0::ds) ([{ target:=.collected l,args:=#[] }]++a.defers):=⟨_,_,rfl,m30,hd⟩
    have st3:St μ h w μ3 env (.coll id0::ds) h4 { a with defers:=[{ target:=.collected l,args:=#[] }]++a.defers } wE:=⟨post.trans (by rw [hwE];exact post4),he,hds⟩
    split at q
    · exact ⟨μ3,env,_,h4,st3,q,hn⟩
    · exact wpIn_ret ⟨μ3,env,_,h4,st3,q,hn⟩
    · exact wpIn_exit ⟨μ3,env,_,h4,st3,q,hn⟩
    · exact q.elim
  · exact q.elim
theorem rangeFunc_ok {G:Gam} (hG:Wm P G) {F:Fence} (hF:WideF F) {m:Nat} (htop:F.round=none) {n:Nat} {g:Operand} {ps:Array Tmp} {x y:Code} {K:Ks} {env:List AV} {ds:List Dfr} {h:H} {μ:Mu} {a:Act} {w:World}
    (e:match ev env g with
      | .func (.func f) first captured=>Qz (.defd true) h fun id0 h=>Qz (.loop .ready none ps.toList x y env) h fun id1 h=>G.it f (first++(.yield id1::captured)) h fun _ h=>Vu id0 id1 K env ds h
      | _=>False) (he:EnvRel μ env a.tmps) (hn:env.length=n) (hd:DfrRel μ ds a.defers) (hR:Rel μ h w):(Code.rangeFunc g ps x y).wpIn F m P (LeftN n K μ h w) a w:=by
  split at e
  · rename_i f first captured hf
    rw [Zo] at e
    obtain ⟨id0,h1,hp1,e⟩:=e
    rw [Zo] at e
    obtain ⟨id1,h2,hp2,e⟩:=e
    have hfr:=XQ he g
    rw [hf] at hfr;simp only [AV.rel] at hfr
    obtain ⟨f',c',hv,r1,r2⟩:=hfr
    obtain ⟨μ1,m1,post1⟩:=WI hR hp1 (o:=.deferred (some [])) (by simp) fun μ' w' _ hw=>⟨rfl,hw⟩
    have le1:=hR.ext_le post1.ext
    refine wpIn_rangeFunc fun fn _=>?_
    obtain ⟨lp,hlp⟩:∃ lp:Loop,lp={ state:=.ready,pending:=none,fn,tmps:=a.tmps,params:=ps,assign:=x,body:=y,defers:=w.heap.size }:=⟨_,rfl⟩
    obtain ⟨μ2,m2,post2⟩:=WI post1.rel hp2 (o:=.loop lp) (by simp) fun μ' w' hle hw=>⟨rfl,lp,hw,by rw [hlp],by rw [hlp],by rw [hlp],by rw [hlp],by rw [hlp],by rw [hlp];exact (he.mono le1).mono hle⟩
    have post:=post1.trans post2
    have le2:=post1.rel.ext_le post2.ext
    obtain ⟨yv,hyv⟩:∃ yv:Value,yv=.func (.yield (w.heap.size+1)) #[] #[]:=⟨_,rfl⟩
    obtain ⟨w2,hw2⟩:∃ w2:World,w2=(w.alloc (.deferred (some []))).alloc (.loop lp):=⟨_,rfl⟩
    have hw2':({ ({ w with heap:=w.heap.push (.deferred (some [])) }:World) with heap:=({ w with heap:=w.heap.push (.deferred (some [])) }:World).heap.push (.loop lp) }:World)=w2:=by rw [hw2];rfl
    rw [hw2'] at post2 post
    have hsz:({ w with heap:=w.heap.push (.deferred (some [])) }:World).heap.size=w.heap.size+1:=by simp
    rw [hsz] at m2
    have hargs:AV.relL μ2 (first++(.yield id1::captured)) (f'++#[yv]++c').toList:=by
      have e1:(f'++#[yv]++c').toList=f'.toList++(yv::c'.toList):=by simp
      rw [e1]
      refine AV.relL_append (AV.relL_mono le2 _ _ (AV.relL_mono le1 _ _ r1)) (AV.relL_cons_cons.2 ⟨?_,AV.relL_mono le2 _ _ (AV.relL_mono le1 _ _ r2)⟩)
      simp only [AV.rel];exact ⟨_,m2,hyv⟩
    obtain ⟨c1,c2⟩:=hG.it f _ _ _ e μ2 w2 _ post2.rel hargs
    refine ⟨w.heap.size+1,[{ target:=.collected w.heap.size,args:=#[] }],w2,{ target:=.fn (.func f) c',args:=f'++#[yv] },w2,f,f'++#[yv]++c',w2,?_,?_,fun f _=>hF.fn f,c1,fun hdp=>(by rw [hF.depth] at hdp;cases hdp),CallsIn.mono (hF.calls c2) ?_⟩
    · rw [htop,hlp] at *;rw [hw2];exact run_enterLoop_outer _ _ _ _ _
    · simp only [resolve,hv,Deferred.ofValue,Sem.run_pure];simp [hyv,Act.eval]
    · rintro ex w3 ⟨v, μ3, r, h3, rfl, hr3, post3, q⟩
      have le3:=post2.rel.ext_le post3.ext
      have m3:μ3 id1=some (w.heap.size+1,0):=(le3 _ _ m2).1
      have m30:μ3 id0=some (w.heap.size,0):=(le3 _ _ (le2 _ _ m1).1).1
      exact endRange_ok hF q (post.trans post3) m30 m3 (((he.mono le1).mono le2).mono le3) hn (((hd.mono le1).mono le2).mono le3)
  · exact e.elim
include hT hm in
theorem Qfb {G : Gam} (hG : Wm P G) {F : Fence} (hF : WideF F) {m : Nat} {top : Bool} (htop : top = true → F.round = none) {n : Nat} (c : Code) : ∀ (L : Lv) (K : Ks) (env : List AV) (ds : List Dfr) (h : H) (μ : Mu) (a : Act) (w : World),
    den T G top n c L K env ds h→EnvRel μ env a.tmps→env.length=n→DfrRel μ ds a.defers→Rel μ h w→c.wpIn F m P (LeftN n K μ h w) a w:=by
  induction c with
  | skip=>intro L K env ds h μ a w e he hn hd hR;exact wpIn_skip ⟨μ,env,ds,h,St.refl hR he hd,e,hn⟩
  | label l=>intro L K env ds h μ a w e he hn hd hR;exact wpIn_label ⟨μ,env,ds,h,St.refl hR he hd,e,hn⟩
  | ret=>intro L K env ds h μ a w e he hn hd hR;exact wpIn_ret ⟨μ,env,ds,h,St.refl hR he hd,e,hn⟩
  | exit id=>intro L K env ds h μ a w e he hn hd hR;exact wpIn_exit ⟨μ,env,ds,h,St.refl hR he hd,e,hn⟩
  | region id ops draw =>
    intro L K env ds h μ a w e he hn hd hR
    simp only [den] at e
    cases draw with
    | false =>
      refine wpIn_region ?_
      have:=Xl (Q:=LeftN n K μ h w) (n:=m) hT hG hF htop ops.toList 0 rfl env ds h μ a w e he hd hR
        (fun μ' env' ds' h' a' w' hs hk hl=>⟨μ',env',ds',h',hs,hk,by rw [hl];exact hn⟩)
      rw [List.range_eq_range']
      simpa using this
    | true =>
      simp only at e
      split at e
      · rename_i hok
        refine wpIn_region_any hm ?_
        have hp:=Post.drew hR (w.drawn+1)
        refine draw_ok (k:=fun env h=>K.norm env ds h) hT hG hF hok (Yx e) he hp.rel fun μ' env' h' a' w' hs he' hd' hk hl=>⟨μ',env',ds,h',⟨hp.trans hs,he',by rw [hd'];exact hd.mono (hp.rel.ext_le hs.ext)⟩,hk,by rw [hl];exact hn⟩
      · split at e
        · rename_i hok
          refine wpIn_region_any hm ?_
          have hp:=Post.drew hR (w.drawn+1)
          refine draw_two (k:=fun env h=>K.norm env ds h) hT hG hF hok e he hp.rel fun μ' env' h' a' w' hs he' hd' hk hl=>⟨μ',env',ds,h',⟨hp.trans hs,he',by rw [hd'];exact hd.mono (hp.rel.ext_le hs.ext)⟩,hk,by rw [hl];exact hn⟩
        · exact e.elim
  | seq x y ihx ihy =>
    intro L K env ds h μ a w e he hn hd hR
    refine wpIn_seq ?_
    simp only [den] at e
    split at e
    · refine wpIn_mono (ihx _ _ env ds h μ a w e he hn hd hR) fun ex a' w' hx => ?_
      cases ex with
      | normal =>
        obtain ⟨μ',env',ds',h',s,l,n'⟩:=hx
        exact wpIn_mono (ihy L K env' ds' h' μ' a' w' l s.env n' s.defers s.post.rel) fun ex2 a2 w2 h2=>h2.after s.post fun _ _ _ q=>q
      | _ =>
        obtain ⟨μ',env',ds',h',s,l,n'⟩:=hx
        exact ⟨μ',env',ds',h',s,l,n'⟩
    · rw [G.J.jd_ok] at e
      refine wpIn_mono (ihx _ _ env ds h μ a w e he hn hd hR) fun ex a' w' hx=>?_
      cases ex with
      | normal =>
        obtain ⟨μ',env',ds',h',s,l,n'⟩:=hx
        exact wpIn_mono (ihy L K _ ds' h' μ' a' w' l (s.env.mkE n' _) (W8 _ _ _ _) s.defers s.post.rel) fun ex2 a2 w2 h2=>h2.after s.post fun _ _ _ q=>q
      | _ =>
        obtain ⟨μ',env',ds',h',s,l,n'⟩:=hx
        exact ⟨μ',env',ds',h',s,l,n'⟩
  | cond c x y ihx ihy =>
    intro L K env ds h μ a w e he hn hd hR
    simp only [den] at e
    have hc:=XQ he c
    rw [Z7] at e
    obtain ⟨b,hb,e⟩:=e
    rw [hb] at hc;simp only [AV.rel] at hc
    rw [Yf] at e
    rcases e with ⟨rfl,e⟩ | ⟨rfl,e⟩
    · exact wpIn_cond_true hc (ihx L K env ds h μ a w e he hn hd hR)
    · exact wpIn_cond_false hc (ihy L K env ds h μ a w e he hn hd hR)
  | block id x ihx =>
    intro L K env ds h μ a w e he hn hd hR
    simp only [den] at e
    refine wpIn_block (wpIn_mono (ihx _ _ env ds h μ a w e he hn hd hR) ?_)
    rintro ex a' w' ⟨μ',env',ds',h',s,l,n'⟩
    cases ex with
    | exit i =>
      simp only [Ux] at l
      simp only [Exit.inBlock]
      by_cases hi:i=id
      · rw [if_pos hi]
        subst hi
        have hb:Nat.beq i i=true:=by rw [Nat.beq_eq]
        rw [hb] at l
        exact ⟨μ',env',ds',h',s,l,n'⟩
      · rw [if_neg hi]
        have hb:Nat.beq i id=false:=by
          cases hb:Nat.beq i id with
          | false=>rfl
          | true=>rw [Nat.beq_eq] at hb;exact absurd hb hi
        rw [hb] at l
        exact ⟨μ',env',ds',h',s,l,n'⟩
    | _=>exact ⟨μ',env',ds',h',s,l,n'⟩
  | loop c ih =>
    intro L K env ds h μ a w e he hn hd hR b k cs hro hb hr
    obtain ⟨W,hW⟩:∃ W,W=Go.Am.live n (QV c ⟨[],L.ex,L.ret⟩):=⟨_,rfl⟩
    obtain ⟨L',hL'⟩:∃ L':Lv,L'=⟨QV c ⟨[],L.ex,L.ret⟩,L.ex,L.ret⟩:=⟨_,rfl⟩
    simp only [den] at e
    rw [← hW,← hL',G.J.lp_ok] at e
    have key:∀ (j:Nat) (v:Tup W) (e1:List AV) (ds1:List Dfr) (h1:H) (μ1:Mu) (a1:Act) (w1:World),
        KH (α:=Tup W) (fun self v=>den T G top n c L' ⟨fun e=>self (UQ W e),K.exit,K.ret⟩ (Yv n 0 W v)) j v ds1 h1→v=UQ W e1→EnvRel μ1 e1 a1.tmps→e1.length=n→DfrRel μ1 ds1 a1.defers→Post μ h w μ1 h1 w1 →
        ∃ ex a' w',LeftN n K μ h w ex a' w'∧ArrivesIn (Machine.fenced P F) P (lone (b.atR a1 (.code c::.inLoop c::k)) cs w1) b k cs ex a' w':=by
      intro j
      induction j with
      | zero=>intro v e1 ds1 h1 μ1 a1 w1 q;exact q.elim
      | succ j ihj =>
        intro v e1 ds1 h1 μ1 a1 w1 q hv he1 hn1 hd1 hp1
        have q:den T G top n c L' ⟨fun e=>KH (α:=Tup W) (fun self v=>den T G top n c L' ⟨fun e=>self (UQ W e),K.exit,K.ret⟩ (Yv n 0 W v)) j (UQ W e),K.exit,K.ret⟩ (Yv n 0 W v) ds1 h1:=q
        subst hv
        obtain ⟨ex,a2,w2,hq,harr⟩:=ih _ _ _ ds1 h1 μ1 a1 w1 q (he1.mkE hn1 W) (W8 _ _ _ _) hd1 hp1.rel b (.inLoop c::k) cs hro hb hr
        obtain ⟨μ2,env2,ds2,h2,s2,l2,n2⟩:=hq
        cases ex with
        | normal =>
          obtain ⟨ex,a',w',q',harr2⟩:=ihj _ env2 ds2 h2 μ2 a2 w2 l2 rfl s2.env n2 s2.defers (hp1.trans s2.post)
          exact ⟨ex,a',w',q',.of_steps (StepsIn.trans harr (.one (fenced_calm hb hr rfl) stepR_inLoop)) harr2⟩
        | exit id=>exact ⟨_,a2,w2,⟨μ2,env2,ds2,h2,⟨hp1.trans s2.post,s2.env,s2.defers⟩,(show Ux K (.exit id) env2 ds2 h2 from l2),n2⟩,.pass (x:=.inLoop c) rfl (fun _ _=>.inl (by simp)) harr⟩
        | ret=>exact ⟨_,a2,w2,⟨μ2,env2,ds2,h2,⟨hp1.trans s2.post,s2.env,s2.defers⟩,(show Ux K .ret env2 ds2 h2 from l2),n2⟩,.pass (x:=.inLoop c) rfl (fun _ _=>.inl (by simp)) harr⟩
        | goto l=>exact l2.elim
        | panic ch=>exact l2.elim
        | outgrown=>exact l2.elim
    obtain ⟨ex,a',w',hq,harr⟩:=key fuel (UQ W env) env ds h μ a w e rfl he hn hd (Post.refl hR)
    exact ⟨ex,a',w',hq,.of_steps (.one (fenced_calm hb hr rfl) stepR_loop) harr⟩
  | rangeFunc g ps x y =>
    intro L K env ds h μ a w e he hn hd hR
    simp only [den] at e
    split at e
    · exact rangeFunc_ok hG hF (htop rfl) e he hn hd hR
    · exact e.elim
  | scope x ihx =>
    intro L K env ds h μ a w e he hn hd hR
    simp only [den] at e
    exact wpIn_scope_straight (ihx L K env ds h μ a w e he hn hd hR) fun l a' w' hq=>by
      obtain ⟨_,_,_,_,_,l2,_⟩:=hq
      exact l2
  | goto l=>intro L K env ds h μ a w e;exact e.elim
  | refuse w=>intro L K env ds h μ a w e;exact e.elim
end
end Go.Am
namespace Go.Am
open Go
theorem Do:∀ n,Gh n []=List.replicate n .junk
  | 0=>rfl
  | n+1=>by show AV.junk::Gh n []=_;rw [Do n];rfl
theorem KF:∀ (n:Nat) (l:List AV),l.length≤n→Gh n l=l++List.replicate (n - l.length) .junk
  | 0, l, h => by
    have:l=[]:=List.length_eq_zero_iff.1 (by omega)
    subst this;rfl
  | n+1,[],_=>by rw [Do];rfl
  | n + 1, a :: t, h => by
    show a::Gh n t=_
    rw [KF n t (by simpa using h)]
    simp
def Xn (tmps:Array Value):ResultVar→Sem Value
  | .tmp t=>pure (tmps.getD t undef)
  | .cell a t=>do loadVar t (← asAddr (tmps.getD a undef))
theorem results_eq (fn:Func) (tmps:Array Value):results fn tmps=(do
    let vs ← fn.results.mapM (Xn tmps)
    pure (if h:vs.size=1 then vs[0] else .tuple vs)):=by
  rfl
section
variable {P:Program} {T:Ty} (hT:YN P T) (hm:P.follows .mixedOrders=true)
include hT in
theorem res1_ok {μ:Mu} {env:List AV} {h:H} {w:World} {tmps:Array Value} (he:EnvRel μ env tmps) (hR:Rel μ h w) {r:AV} {a t:Nat} (e:opR T (.load t (.tmp a)) (ev env) h=some r) :
    ∃ v,(Xn tmps (.cell a t)).run P w=.ok v w∧r.rel μ v:=by
  have hrel:Wz μ (ev env) (Act.eval ⟨tmps,[]⟩):=XQ (a:=⟨tmps,[]⟩) he
  obtain ⟨v,h1,h2⟩:=Qcf (O:=⟨none,.load t (.tmp a),0, "", #[],none⟩) hT e hrel hR
  refine ⟨v,?_,h2⟩
  simp only [execOp,Sem.run_bind] at h1
  have hp:∃ x,tmps.getD a undef=.pointer (some x):=by
    cases hx:tmps.getD a undef with
    | pointer p => cases p with
      | some x=>exact ⟨x,rfl⟩
      | none=>exfalso;simp only [Act.eval,hx,Instr.loadAt,Instr.sureAddr,Sem.run_bind,run_stuck,Result.andThen_halt] at h1;cases h1
    | _=>exfalso;simp only [Act.eval,hx,Instr.loadAt,Instr.sureAddr,Sem.run_bind,run_stuck,Result.andThen_halt] at h1;cases h1
  obtain ⟨x,hx⟩:=hp
  simp only [Act.eval,hx,Instr.loadAt,Instr.sureAddr,Sem.run_bind,Sem.run_pure,Result.andThen_ok] at h1
  simp only [Xn,hx,asAddr,Sem.run_bind,Sem.run_pure,Result.andThen_ok]
  cases hl:(loadVar t x).run P w with
  | ok v' w' =>
    rw [hl] at h1;simp only [Result.andThen_ok] at h1
    injection h1 with e1 e2;injection e1 with e1;subst e1 e2;rfl
  | halt hh w'=>rw [hl] at h1;cases h1
include hT in
theorem QcT {μ:Mu} {env:List AV} {h:H} {w:World} {tmps:Array Value} (he:EnvRel μ env tmps) (hR:Rel μ h w):∀ {l:List ResultVar} {ts:List Nat} {k:List AV→Prop},Qam T env h l ts k →
    ∃ rs,k rs∧∃ vs:List Value,(l.mapM (Xn tmps)).run P w=.ok vs w∧AV.relL μ rs vs
  | [],ts,k,e=>⟨[],e,[],rfl,AV.relL_nil.2 rfl⟩
  | rv :: l, ts, k, e => by
    have fin:∀ {v:AV} {x:Value} {ts':List Nat},(Xn tmps rv).run P w=.ok x w→v.rel μ x→(Qam T env h l ts' fun vs=>k (v::vs))→∃ rs,k rs∧∃ vs:List Value,((rv::l).mapM (Xn tmps)).run P w=.ok vs w∧AV.relL μ rs vs:=fun h1 h2 e=>by
      obtain ⟨rs,hk,xs,h3,h4⟩:=QcT he hR e
      refine ⟨_,hk,_::xs,?_,AV.relL_cons_cons.2 ⟨h2,h4⟩⟩
      simp only [List.mapM_cons,Sem.run_bind,Sem.run_pure]
      rw [h1];simp only [Result.andThen_ok];rw [h3];rfl
    unfold Qam at e
    split at e
    · rename_i t ty ts'
      have e:=YM e
      exact fin (x:=tmps.getD t undef) rfl (by rw [Z5];exact he.get t) e
    · rename_i a t
      obtain ⟨v,hv,e⟩:=Qdk e
      obtain ⟨x,h1,h2⟩:=res1_ok hT he hR (a:=a) (t:=t) hv
      exact fin h1 h2 e
    · exact e.elim
include hT in
theorem results_ok {μ:Mu} {env:List AV} {h:H} {w:World} {fn:Func} {tmps:Array Value} {k:AV→H→Prop} {ts:List Nat} (he:EnvRel μ env tmps) (hR:Rel μ h w) (e:Zf T fn.results.toList ts env h k) :
    ∃ r v,k r h∧(results fn tmps).run P w=.ok v w∧r.rel μ v:=by
  unfold Zf at e
  obtain ⟨rs,hk,vs,h1,h2⟩:=QcT hT he hR e
  have run:(results fn tmps).run P w=.ok (if h:vs.toArray.size=1 then vs.toArray[0] else .tuple vs.toArray) w:=by
    rw [results_eq,Array.mapM_eq_mapM_toList]
    simp only [Sem.run_bind,Sem.run_map,Sem.run_pure]
    rw [h1];rfl
  split at hk
  · rename_i v
    obtain ⟨x,vs',rfl,h3,h4⟩:=AV.relL_cons.1 h2
    rw [AV.relL_nil] at h4;subst h4
    exact ⟨_,x,hk,by rw [run];rfl,h3⟩
  · rename_i hne
    refine ⟨_,.tuple vs.toArray,hk,?_,by simp only [AV.rel];exact ⟨_,rfl,h2⟩⟩
    rw [run,dif_neg]
    intro h1'
    have hl:=AV.relL_length h2
    have:rs.length=1:=by simpa [hl] using h1'
    obtain ⟨x,hx⟩:=List.length_eq_one_iff.1 this
    exact hne x hx
theorem NC {G:Gam} (hG:Wm P G) {n:Nat} {fn:Func} {tmps:Array Value} {R:Ending→World→Prop}:∀ {ds:List Dfr} {l:List Deferred} {h:H} {k:H→Prop} {μ:Mu} {w:World},Qu G ds h k→DfrRel μ ds l→Rel μ h w →
    (∀ μ' h' w',Post μ h w μ' h' w'→k h'→LeavesInM Fence.wide n P fn tmps R [] .returning w')→LeavesInM Fence.wide n P fn tmps R l .returning w
  | [], l, h, k, μ, w, e, hd, hR, hq => by
    rw [show l=[] from hd]
    exact hq μ h w (Post.refl hR) e
  | .coll id :: ds, l, h, k, μ, w, e, hd, hR, hq => by
    obtain ⟨b,l',rfl,hm,hd'⟩:=hd
    unfold Qu at e
    split at e
    · rename_i hg
      rw [ZK] at e
      obtain ⟨h',hp,e⟩:=e
      have hb:=hR.blk id b 0 hm
      rw [hg] at hb
      have hh:w.heap[b]?=some (.deferred (some [])):=hb.2
      have post:Post μ h w μ h' (w.putObj b (.deferred none)):=Yz hR hm (by rw [hg];rfl) hp hh (by simp) fun w' hw'=>⟨rfl,hw'⟩
      refine ⟨by simp,.inl ⟨b,_,rfl,run_takeDeferred hh,NC hG e (hd'.mono (hR.ext_le post.ext)) post.rel fun μ' h' w' p q=>hq μ' h' w' (post.trans p) q⟩⟩
    · exact e.elim
  | .call f as cs :: ds, l, h, k, μ, w, e, hd, hR, hq => by
    obtain ⟨avs,cvs,l',rfl,h1,h2,hd'⟩:=hd
    unfold Qu at e
    obtain ⟨c1,c2⟩:=hG.dfn f _ _ _ e μ w (avs++cvs) hR (by rw [Array.toList_append];exact AV.relL_append h1 h2)
    refine ⟨by simp,.inr ⟨fun hdp=>(by simp [Fence.wide] at hdp),.func f,cvs,f,avs++cvs,rfl,c1,fun _ _=>trivial,CallsDIn.mono (c2 (n - 1)) ?_⟩⟩
    rintro ex u' w' ⟨rfl,v,μ',r,h',rfl,hr,post,e'⟩
    exact NC hG e' (hd'.mono (hR.ext_le post.ext)) post.rel fun μ'' h'' w'' p q=>hq μ'' h'' w'' (post.trans p) q
theorem args_env {μ:Mu} {as:List AV} {args:Array Value} {n:Nat} (ha:AV.relL μ as args.toList) (hn:as.length≤n):EnvRel μ (Gh n as) (args++Array.replicate (n - args.size) undef)∧(Gh n as).length=n:=by
  have hlen:=AV.relL_length ha
  have hlen':args.size=as.length:=by simpa using hlen
  rw [KF n as hn]
  refine ⟨⟨fun t=>?_,by simp [hlen']⟩,by simp;omega⟩
  by_cases ht:t < as.length
  · obtain ⟨v, hv, hvr⟩ := AV.relL_get ha t _ (List.getElem?_eq_getElem ht)
    rw [Array.getElem?_toList] at hv
    have e1:(as++List.replicate (n - as.length) AV.junk).getD t .junk=as[t]:=by simp [List.getD_eq_getElem?_getD,List.getElem?_append_left ht,ht]
    have e2:(args++Array.replicate (n - args.size) undef).getD t undef=v:=by
      rw [Array.getD_eq_getD_getElem?,Array.getElem?_append_left (by omega),hv];rfl
    rw [e1,e2];exact hvr
  · have e1 : (as ++ List.replicate (n - as.length) AV.junk).getD t .junk = .junk := by
      rw [List.getD_eq_getElem?_getD,List.getElem?_append_right (by omega),List.getElem?_replicate]
      split <;> rfl
    rw [e1];simp [AV.rel]
include hT hm in
theorem it_ok {G : Gam} (hG : Wm P G) {f : FuncId} {fn : Func} (hf : P.funcs[f]? = some fn) (hcall : ∀ args w, (callFunc f args).run P w = .ok (.enter f args) w) : ItOk P f (Zl T G fn) := by
  intro as h Q e μ w args hR ha
  refine ⟨hcall args w,?_⟩
  unfold Zl at e
  split at e
  · rename_i c hc hn
    rw [Qk] at hn
    unfold GU
    rw [← callsIn_wide (n:=0)]
    refine callsIn_of_wp_marks hf hc trivial ?_
    obtain ⟨he,hl⟩:=args_env ha hn
    refine wpIn_mono (Qfb hT hm hG (.inl rfl) (fun _=>rfl) c _ _ _ [] h μ ⟨args++Array.replicate (fn.ntmps - args.size) undef,[]⟩ w e he hl rfl hR) ?_
    rintro ex a' w' ⟨μ',env',ds',h1,s,l,_⟩
    have fin:(Qu G ds' h1 fun h=>Zf T fn.results.toList fn.resultTypes.toList env' h Q)→LeavesInM Fence.wide 0 P fn a'.tmps (fun e w'=>∃ v μ' r h',e=.returned v∧r.rel μ' v∧Post μ h w μ' h' w'∧Q r h') a'.defers .returning w':=fun q=>
      NC hG q s.defers s.post.rel fun μ2 h2 w2 p2 q2=>by
        obtain ⟨r,v,q3,q4,q5⟩:=results_ok hT (s.env.mono (s.post.rel.ext_le p2.ext)) p2.rel q2
        exact ⟨v,q4,v,μ2,r,h2,rfl,q5,s.post.trans p2,q3⟩
    cases ex with
    | normal=>exact fin l
    | ret=>exact fin l
    | exit id=>exact l.elim
    | goto g=>exact l.elim
    | panic c=>exact l.elim
    | outgrown=>exact l.elim
  · exact e.elim
include hT hm in
theorem QA {G:Gam} (hG:Wm P G) {f:FuncId} {fn:Func} (hf:P.funcs[f]?=some fn) (hcall:∀ args w,(callFunc f args).run P w=.ok (.enter f args) w):Qt P f (Zl T G fn):=(it_ok hT hm hG hf hcall).fun
include hT hm in
theorem code_ok {G:Gam} (hG:Wm P G):QaY P (Qcs T G):=by
  intro c K env ds h e l n μ a w he hd hR
  exact wpIn_mono (Qfb hT hm hG (.inr ⟨l,rfl⟩) (fun h=>by cases h) c ⟨[],[],[]⟩ K env ds h μ a w e he rfl hd hR) fun ex a' w' hx=>hx.left
end
end Go.Am
