import Derived.Test.YtfgdelkdmdmfgaaDoorAmL3
import Derived.RangeFuncRecord
import Derived.OrdersIn
set_option linter.all false
namespace Go.Am
open Go
def Wz (μ:Mu) (ρa:Operand→AV) (ρ:Operand→Value):Prop:=∀ x,(ρa x).rel μ (ρ x)
theorem XQ {μ:Mu} {env:List AV} {a:Act} (h:EnvRel μ env a.tmps):Wz μ (ev env) a.eval:=by
  intro x
  cases x with
  | tmp t=>show (Wi .junk env t).rel μ _;rw [Z5];exact h.get t
  | const v=>exact Du v
  | global g=>simp only [ev,AV.rel];rfl
  | func f=>simp only [ev,AV.rel,Act.eval];exact ⟨_,_,rfl,AV.relL_nil.2 rfl,AV.relL_nil.2 rfl⟩
theorem VC {μ:Mu} {ρa:Operand→AV} {ρ:Operand→Value} (h:Wz μ ρa ρ) (x:Option Operand):Wr μ (x.map ρa) (x.map ρ):=by
  cases x with
  | none=>trivial
  | some x=>exact h x
theorem VE {μ:Mu} {ρa:Operand→AV} {ρ:Operand→Value} (h:Wz μ ρa ρ):∀ l:List Operand,AV.relL μ (l.map ρa) (l.map ρ)
  | []=>AV.relL_nil.2 rfl
  | x::l=>AV.relL_cons_cons.2 ⟨h x,VE h l⟩
theorem Xs {μ:Mu} {ρa:Operand→AV} {ρ:Operand→Value} (h:Wz μ ρa ρ):∀ l:List (Nat × Operand),QcD μ (l.map fun p=>(p.1,ρa p.2)) (l.map fun p=>(p.1,ρ p.2))
  | []=>rfl
  | p::l=>⟨_,_,rfl,h p.2,Xs h l⟩
section
variable {P:Program} {T:Ty} (hT:YN P T) {μ:Mu} {ρa:Operand→AV} {ρ:Operand→Value}
theorem UP {s:Sem Value} {v:Value} (h:Yld P s v):Qfl P (do pure (.value (← s))) v:=fun w=>by
  simp only [Sem.run_bind,h w,Result.andThen_ok,Sem.run_pure]
theorem KZ {t f off ft : Nat} (h : VJ T t f = some (off, ft)) : ∃ fs, (T t).kd = .struct fs ∧ fs[f]? = some (off, ft) ∧ (T ft).kd.known = true ∧ (T ft).size ≠ 0 := by
  unfold VJ at h
  split at h
  · rename_i fs hk
    split at h
    · rename_i o t' hf
      split at h
      · rename_i hc
        injection h with h;injection h with e1 e2;subst e1 e2
        rw [Bool.and_eq_true,Qk] at hc
        exact ⟨fs,hk,hf,hc.1,by omega⟩
      · cases h
    · cases h
  · cases h
include hT in
theorem Qet {O : Oper} {r : AV} (h : opP T O.op ρa = some r) (hr : Wz μ ρa ρ) : ∃ v, Qfl P (execOp ρ O) v ∧ r.rel μ v := by
  obtain ⟨dst,op,type,pos,after,guard⟩:=O
  simp only at h
  unfold opP at h
  split at h
  case h_1 x=>injection h with h;subst h;exact ⟨ρ x,fun w=>rfl,hr x⟩
  case h_2 x=>injection h with h;subst h;exact ⟨ρ x,fun w=>rfl,hr x⟩
  case h_3 c a b=>
    have hc:=hr c
    unfold QdL at h
    split at h
    · rename_i e; injection h with h; subst h
      rw [e] at hc;simp only [AV.rel] at hc
      exact ⟨ρ a,fun w=>by simp only [execOp,hc];rfl,hr a⟩
    · rename_i e; injection h with h; subst h
      rw [e] at hc;simp only [AV.rel] at hc
      exact ⟨ρ b,fun w=>by simp only [execOp,hc];rfl,hr b⟩
    · cases h
  case h_4 x=>
    have hx:=hr x
    unfold X7 at h
    split at h
    · rename_i e; injection h with h; subst h
      rw [e] at hx;simp only [AV.rel] at hx
      obtain ⟨b,d,hm,hv⟩:=hx
      refine ⟨ρ x,fun w=>?_,by simp only [AV.rel];exact ⟨b,d,hm,hv⟩⟩
      simp only [execOp,hv];rfl
    · rename_i e; injection h with h; subst h
      rw [e] at hx;simp only [AV.rel] at hx
      obtain ⟨y,hv,hy⟩:=hx
      refine ⟨ρ x,fun w=>?_,by simp only [AV.rel];exact ⟨y,hv,hy⟩⟩
      simp only [execOp,hv];rfl
    · rename_i e; injection h with h; subst h
      rw [e] at hx;simp only [AV.rel] at hx
      obtain ⟨f',c',hv,h1,h2⟩:=hx
      refine ⟨ρ x,fun w=>?_,by simp only [AV.rel];exact ⟨f',c',hv,h1,h2⟩⟩
      simp only [execOp,hv];rfl
    · cases h
  case h_5 op t x y u=>
    obtain ⟨v,h1,h2⟩:=bin_ok hT (ox:=x) (oy:=y) (by rw [Bool.or_eq_true];exact id) h (hr x) (hr y)
    exact ⟨v,UP h1,h2⟩
  case h_6 op t x=>obtain ⟨v,h1,h2⟩:=un_ok (P:=P) h (hr x);exact ⟨v,UP h1,h2⟩
  case h_7 s d x=>
    unfold QdM at h
    split at h
    · rename_i k hk
      split at h
      · rename_i hs
        obtain ⟨v,h1,h2⟩:=aint_ok hT hs hk h (hr x);exact ⟨v,UP h1,h2⟩
      · cases h
    · rename_i hk
      split at h
      · rename_i s' hs e
        injection h with h;subst h
        obtain ⟨_,h1,rfl⟩:=QJ hT hs rfl
        obtain ⟨_,h2,rfl⟩:=QJ hT hk rfl
        have hx:=hr x
        rw [e] at hx;simp only [AV.rel] at hx
        obtain ⟨b,hv,hb⟩:=hx
        refine ⟨ρ x,UP fun w=>?_,by simp only [AV.rel];exact ⟨b,hv,hb⟩⟩
        simp [convert,run_underlying h1,run_underlying h2,hv]
      · cases h
    · cases h
  case h_8 fn a b=>
    injection h with h;subst h
    refine ⟨.func fn (a.map ρ) (b.map ρ),fun w=>rfl,?_⟩
    simp only [AV.rel]
    exact ⟨_,_,rfl,by rw [Array.toList_map];exact VE hr _,by rw [Array.toList_map];exact VE hr _⟩
  case h_9 t x=>
    have key:∀ d,P.underlying t=some d→(∀ ms,d≠.interface ms)→Yld P (Instr.makeInterface t (ρ x)) (.iface t (ρ x)):=by
      intro d hd hne w
      cases d <;> first | exact absurd rfl (hne _) | simp [Instr.makeInterface,run_underlying hd]
    split at h
    · cases h
    · cases h
    · rename_i h1 h2
      injection h with h;subst h
      obtain ⟨d,hd,hk⟩:=QJ hT (t:=t) rfl (by revert h1 h2;cases (T t).kd <;> simp [Kd.known])
      refine ⟨.iface t (ρ x),UP (key d hd ?_),by simp only [AV.rel];exact ⟨_,rfl,hr x⟩⟩
      intro ms e
      subst e
      revert hk h1 h2
      cases (T t).kd <;> simp [Jr]
  case h_10 t x f=>
    split at h
    · rename_i off ft hf
      obtain ⟨fs,e1,e2,e3,e4⟩:=KZ hf
      obtain ⟨v,h1,h2⟩:=fieldAddr_ok hT e1 e2 e3 e4 h (hr x);exact ⟨v,UP h1,h2⟩
    · cases h
  case h_11 t x f=>
    split at h
    · rename_i off ft hf
      obtain ⟨fs,e1,e2,e3,e4⟩:=KZ hf
      obtain ⟨v,h1,h2⟩:=field_ok hT e1 e2 e3 h (hr x);exact ⟨v,UP h1,h2⟩
    · cases h
  case h_12 t x i=>
    split at h
    · rename_i e hk
      split at h
      · rename_i hk2;obtain ⟨v,h1,h2⟩:=indexAddr_ok hT hk hk2 h (hr x) (hr i);exact ⟨v,UP h1,h2⟩
      · cases h
    · rename_i n e hk
      split at h
      · rename_i hk2;obtain ⟨v,h1,h2⟩:=indexArrAddr_ok hT hk hk2 h (hr x) (hr i);exact ⟨v,UP h1,h2⟩
      · cases h
    · cases h
  case h_13 t x i=>
    split at h
    · rename_i hk
      obtain ⟨v,h1,h2⟩:=indexStr_ok hT hk h (hr x) (hr i);exact ⟨v,UP h1,h2⟩
    · rename_i n e hk
      split at h
      · rename_i hk2;obtain ⟨v,h1,h2⟩:=indexArr_ok hT hk hk2 h (hr x) (hr i);exact ⟨v,UP h1,h2⟩
      · cases h
    · cases h
  case h_14 t x lo hi=>
    split at h
    · rename_i hk
      obtain ⟨v,h1,h2⟩:=sliceStr_ok hT hk h (hr x) (VC hr lo) (VC hr hi);exact ⟨v,UP h1,h2⟩
    · rename_i e hk
      split at h
      · rename_i hk2;obtain ⟨v,h1,h2⟩:=sliceSl_ok hT hk hk2 h (hr x) (VC hr lo) (VC hr hi);exact ⟨v,UP h1,h2⟩
      · cases h
    · cases h
  case h_15 x i=>obtain ⟨v,h1,h2⟩:=extract_ok (P:=P) h (hr x);exact ⟨v,UP h1,h2⟩
  case h_16 t ps=>
    have hp:=Xs hr ps.toList
    have hp':(ps.map fun (i,x)=>(i,ρ x)).toList=ps.toList.map fun p=>(p.1,ρ p.2):=by rw [Array.toList_map]
    rw [← hp'] at hp
    split at h
    · rename_i fs hk
      split at h
      · rename_i hall
        split at h
        · rename_i l hl
          obtain ⟨v,h1,h2⟩:=buildS_ok hT hk hall hl h hp;exact ⟨v,UP h1,h2⟩
        · cases h
      · cases h
    · rename_i n e hk
      split at h
      · rename_i hk2
        obtain ⟨v,h1,h2⟩:=buildA_ok hT hk hk2 h hp;exact ⟨v,UP h1,h2⟩
      · cases h
    · cases h
  case h_17 x xt a ok=>
    obtain ⟨v,h1,h2⟩:=assert_ok (P:=P) (xt:=xt) hT h (hr x);exact ⟨v,UP h1,h2⟩
  case h_18 t x lo hi m=>
    split at h
    · rename_i e hk
      split at h
      · rename_i hk2;obtain ⟨v,h1,h2⟩:=slice3_ok hT hk hk2 h (hr x) (VC hr lo) (VC hr hi) (hr m);exact ⟨v,UP h1,h2⟩
      · cases h
    · cases h
  case h_19 args argTypes=>
    split at h
    · rename_i x t ha ht
      have ea:args=#[x]:=Array.toList_inj.1 ha
      have et:argTypes=#[t]:=Array.toList_inj.1 ht
      subst ea et
      have run:∀ {v:Value},Yld P (Builtin.len_ #[t] type #[ρ x]) v→Qfl P (execOp ρ ⟨dst,.call { callee:=.builtin .len,args:=#[x],argTypes:=#[t] },type,pos,after,guard⟩) v:=fun hy w=>by
        have:=hy w
        simp only [execOp,resolve,Sem.run_bind,Sem.run_pure,Result.andThen_ok,invoke,builtin,List.map_toArray,List.map_cons,List.map_nil]
        rw [this];rfl
      split at h
      · rename_i hk
        obtain ⟨v,h1,h2⟩:=lenStr_ok (ty:=type) hT hk h (hr x);exact ⟨v,run h1,h2⟩
      · rename_i e hk
        obtain ⟨v,h1,h2⟩:=lenSl_ok (ty:=type) hT hk h (hr x);exact ⟨v,run h1,h2⟩
      · cases h
    · cases h
  case h_20 b args argTypes _=>
    obtain ⟨v,h1,h2⟩:=biP_ok hT (ty:=type) (cs:=args.map (· matches .const _)) h (VE hr _)
    refine ⟨v,fun w=>?_,h2⟩
    have:=h1 w
    simp only [execOp,resolve,Sem.run_bind,Sem.run_pure,Result.andThen_ok,invoke]
    rw [show (args.toList.map ρ).toArray=args.map ρ from by rw [← Array.toList_map]] at this
    simp only [Array.toArray_toList] at this;exact this
  case h_21=>cases h
end
end Go.Am
namespace Go.Am
open Go
def GU (P:Program) (μ:Mu) (h:H) (w:World) (f:FuncId) (args:Array Value) (Q:AV→H→Prop):Prop :=
  Calls P f args w fun e w'=>∃ v μ' r h',e=.returned v∧r.rel μ' v∧Post μ h w μ' h' w'∧Q r h'
def Qt (P : Program) (f : FuncId) (g : Fun) : Prop :=
  ∀ as h Q, g as h Q → ∀ (μ : Mu) (w : World) (args : Array Value), Rel μ h w → AV.relL μ as args.toList →
    (∃ v w' μ' r h',(callFunc f args).run P w=.ok (.value v) w'∧r.rel μ' v∧Post μ h w μ' h' w'∧Q r h') ∨
    ((callFunc f args).run P w=.ok (.enter f args) w∧GU P μ h w f args Q)
def ItOk (P : Program) (f : FuncId) (g : Fun) : Prop :=
  ∀ as h Q, g as h Q → ∀ (μ : Mu) (w : World) (args : Array Value), Rel μ h w → AV.relL μ as args.toList →
    (callFunc f args).run P w=.ok (.enter f args) w∧GU P μ h w f args Q
theorem ItOk.fun {P:Program} {f:FuncId} {g:Fun} (h:ItOk P f g):Qt P f g:=fun as hh Q e μ w args hR ha=>.inr (h as hh Q e μ w args hR ha)
def Qfr (P : Program) (f : FuncId) (g : Fun) : Prop :=
  ∀ as h Q, g as h Q → ∀ (μ : Mu) (w : World) (args : Array Value), Rel μ h w → AV.relL μ as args.toList →
    (callFunc f args).run P w=.ok (.enter f args) w∧∀ n,CallsDIn Fence.wide n P f args .returning w fun e u' w'=>u'=.returning∧∃ v μ' r h',e=.returned v∧r.rel μ' v∧Post μ h w μ' h' w'∧Q r h'
def WideF (F:Fence):Prop:=F=Fence.wide∨∃ l,F=Fence.wide.inRound l
theorem WideF.round {F:Fence} (h:WideF F) (l:Nat):F.inRound l=Fence.wide.inRound l:=by
  rcases h with rfl | ⟨_,rfl⟩ <;> rfl
theorem WideF.fn {F:Fence} (h:WideF F) (f:FuncId):F.fn f:=by
  rcases h with rfl | ⟨_,rfl⟩ <;> trivial
theorem WideF.depth {F:Fence} (h:WideF F):F.depth=none:=by
  rcases h with rfl | ⟨_,rfl⟩ <;> rfl
theorem WideF.calls {F:Fence} (h:WideF F) {n:Nat} {P:Program} {f:FuncId} {args:Array Value} {w:World} {R:Ending→World→Prop} (hc:Calls P f args w R):CallsIn F n P f args w R:=by
  rcases h with rfl | ⟨l,rfl⟩
  · exact callsIn_wide.2 hc
  · exact (callsIn_wide.2 hc:CallsIn Fence.wide n P f args w R)
def DfrRel (μ:Mu):List Dfr→List Deferred→Prop
  | [],l=>l=[]
  | .coll id::ds,l=>∃ b l',l={ target:=.collected b,args:=#[] }::l'∧μ id=some (b,0)∧DfrRel μ ds l'
  | .call f as cs::ds,l=>∃ avs cvs l',l={ target:=.fn (.func f) cvs,args:=avs }::l'∧AV.relL μ as avs.toList∧AV.relL μ cs cvs.toList∧DfrRel μ ds l'
theorem DfrRel.mono {μ μ':Mu} (hm:Le μ μ'):∀ {ds:List Dfr} {l:List Deferred},DfrRel μ ds l→DfrRel μ' ds l
  | [],_,h=>h
  | .coll id :: ds, l, h => by
    obtain ⟨b,l',h1,h2,h3⟩:=h
    exact ⟨b,l',h1,(hm _ _ h2).1,h3.mono hm⟩
  | .call f as cs :: ds, l, h => by
    obtain ⟨avs,cvs,l',h1,h2,h3,h4⟩:=h
    exact ⟨avs,cvs,l',h1,AV.relL_mono hm _ _ h2,AV.relL_mono hm _ _ h3,h4.mono hm⟩
structure St (μ:Mu) (h:H) (w:World) (μ':Mu) (env':List AV) (ds':List Dfr) (h':H) (a':Act) (w':World):Prop where
  post:Post μ h w μ' h' w'
  env:EnvRel μ' env' a'.tmps
  defers:DfrRel μ' ds' a'.defers
def Ux (K:Ks):Exit→List AV→List Dfr→H→Prop
  | .normal,env,ds,h=>K.norm env ds h
  | .exit id,env,ds,h=>K.exit id env ds h
  | .ret,env,ds,h=>K.ret env ds h
  | _,_,_,_=>False
def Left (K:Ks) (μ:Mu) (h:H) (w:World) (e:Exit) (a':Act) (w':World):Prop :=
  ∃ μ' env' ds' h',St μ h w μ' env' ds' h' a' w'∧Ux K e env' ds' h'
def QaY (P:Program) (g:Code→Ks→List AV→List Dfr→H→Prop):Prop :=
  ∀ c K env ds h,g c K env ds h→∀ (l n:Nat) (μ:Mu) (a:Act) (w:World),EnvRel μ env a.tmps→DfrRel μ ds a.defers→Rel μ h w→c.wpIn (Fence.wide.inRound l) n P (Left K μ h w) a w
structure Wm (P:Program) (G:Gam):Prop where
  fn:∀ f,Qt P f (G.fn f)
  it:∀ f,ItOk P f (G.it f)
  dfn:∀ f,Qfr P f (G.dfn f)
  code:QaY P G.code
section
variable {P:Program} {T:Ty} (hT:YN P T) {μ:Mu} {ρa:Operand→AV} {ρ:Operand→Value}
theorem Ja {k:Kd} (h:k.isU8=true):k=.int .u8:=by
  cases k <;> simp only [Kd.isU8,Bool.false_eq_true] at h
  rename_i i;cases i <;> first | rfl | cases h
include hT in
theorem Qcf {O : Oper} {r : AV} {h : H} {w : World} (e : opR T O.op ρa h = some r) (hr : Wz μ ρa ρ) (hR : Rel μ h w) : ∃ v, (execOp ρ O).run P w = .ok (.value v) w ∧ r.rel μ v := by
  obtain ⟨dst,op,type,pos,after,guard⟩:=O
  have lft:∀ {s:Sem Value} {v:Value},s.run P w=.ok v w→((do pure (.value (← s)):Sem Next)).run P w=.ok (.value v) w:=fun h=>by
    simp only [Sem.run_bind,h,Result.andThen_ok,Sem.run_pure]
  simp only at e
  unfold opR at e
  split at e
  case h_1 t a=>
    split at e
    · rename_i hk
      split at e
      · rename_i ha;obtain ⟨v,h1,h2⟩:=loadN_ok hT hk ha hR e (hr a);exact ⟨v,lft h1,h2⟩
      · rename_i ha;obtain ⟨v,h1,h2⟩:=load1_ok hT hk ha hR e (hr a);exact ⟨v,lft h1,h2⟩
    · cases e
  case h_2 s d x=>
    split at e
    · rename_i e' hs hd
      split at e
      · rename_i hu
        obtain ⟨v,h1,h2⟩:=toStr_ok hT hs (Ja hu) hd hR e (hr x);exact ⟨v,lft h1,h2⟩
      · cases e
    · rename_i e' hs hd
      split at e
      · rename_i hc; rw [Bool.and_eq_true, Qk] at hc
        obtain ⟨v,h1,h2⟩:=toU_ok hT hs hd hc.1 hc.2 hR e (hr x);exact ⟨v,lft h1,h2⟩
      · cases e
    · rename_i e' hs hd
      split at e
      · rename_i hc; rw [Bool.and_eq_true, Qk] at hc
        obtain ⟨v,h1,h2⟩:=ofU_ok hT hs hd hc.1 hc.2 hR e (hr x);exact ⟨v,lft h1,h2⟩
      · cases e
    · cases e
  case h_3 t x i ok=>
    split at e
    · rename_i k v hk
      obtain ⟨v,h1,h2⟩:=lookup_ok hT hk hR e (hr x) (hr i);exact ⟨v,lft h1,h2⟩
    · cases e
  case h_4 it=>obtain ⟨v,h1,h2⟩:=entry_ok hR e (hr it);exact ⟨v,lft h1,h2⟩
  case h_5 args argTypes=>
    split at e
    · rename_i x t ha ht
      have ea:args=#[x]:=Array.toList_inj.1 ha
      have et:argTypes=#[t]:=Array.toList_inj.1 ht
      subst ea et
      split at e
      · rename_i k v hk
        obtain ⟨v,h1,h2⟩:=lenMap_ok (ty:=type) hT hk hR e (hr x)
        refine ⟨v,?_,h2⟩
        simp only [execOp,resolve,Sem.run_bind,Sem.run_pure,Result.andThen_ok,invoke,builtin,List.map_toArray,List.map_cons,List.map_nil]
        rw [h1];rfl
      · cases e
    · cases e
  case h_6=>cases e
def AOkN (P : Program) (μ : Mu) (s : Sem Next) (k : Blk) (f : Nat → AV) : Prop :=
  ∀ w : World, ∃ v ob w', s.run P w = .ok (.value v) w' ∧ w'.heap = w.heap.push ob ∧ w'.os = w.os ∧ w'.tape = w.tape ∧ w'.output = w.output ∧
    (∀ μ':Mu,Le μ μ'→BlkRel μ' w' w.heap.size 0 k)∧k.live=true∧(∃ cs t fr,ob=.cells cs t fr∧∀ n (μ':Mu),μ' n=some (w.heap.size,0)→μ'.sz n=cs.size→(f n).rel μ' v)
theorem QeC {s:Sem Value} {k:Blk} {f:Nat→AV} (h:AOk P μ s k f):AOkN P μ (do pure (.value (← s))) k f:=fun w=>by
  obtain ⟨v,ob,w',h1,h2⟩:=h w
  exact ⟨v,ob,w',by simp only [Sem.run_bind,h1,Result.andThen_ok,Sem.run_pure],h2⟩
theorem Xm {e:Nat} (h:Kx T e=true):(T e).kd.known=true∧(T e).size≠0∧(T e).zero.length=(T e).size∧0 < (T e).bytes:=by
  unfold Kx at h
  simp only [Bool.and_eq_true,Qk,Nat.beq_eq] at h
  exact ⟨h.1.1.1,by omega,h.1.2,by omega⟩
include hT in
theorem Qeu {O : Oper} {k : Blk} {f : Nat → AV} (e : opA T O.op ρa = some (k, f)) (hr : Wz μ ρa ρ) : AOkN P μ (execOp ρ O) k f := by
  obtain ⟨dst,op,type,pos,after,guard⟩:=O
  simp only at e
  unfold opA at e
  split at e
  case h_1 t=>
    split at e
    · rename_i hk;exact QeC (alloc_ok hT hk e)
    · cases e
  case h_2 t x=>exact QeC (box_ok e (hr x))
  case h_3 t n ps=>
    split at e
    · rename_i e' hk
      split at e
      · rename_i hc
        simp only [Bool.and_eq_true,Qk,Nat.mul_eq] at hc
        obtain ⟨h1,h2,h3,h4⟩:=Xm hc.1.1
        have hp:=Xs hr ps.toList
        have hp':(ps.map fun (i,x)=>(i,ρ x)).toList=ps.toList.map fun p=>(p.1,ρ p.2):=by rw [Array.toList_map]
        rw [← hp'] at hp
        exact QeC (buildSlice_ok (ty:=type) hT hk h1 h2 h3 hc.2 e hp)
      · cases e
    · cases e
  case h_4 s d x=>
    split at e
    · rename_i e' hs hd
      split at e
      · rename_i hu;exact QeC (strBytes_ok hT hs hd (Ja hu) e (hr x))
      · cases e
    · cases e
  case h_5 t l c=>
    split at e
    · rename_i e' hk
      split at e
      · rename_i hc
        obtain ⟨h1,h2,h3,h4⟩:=Xm hc
        exact QeC (makeSl_ok hT hk h1 h2 h4 h3 e (hr l) (hr c))
      · cases e
    · cases e
  case h_6=>cases e
theorem strOrSlice_iff {k:Kd} (h:Vd k=true):k=.str∨∃ e,k=.slice e:=by
  cases k <;> simp only [Vd,Bool.false_eq_true] at h
  · exact .inl rfl
  · exact .inr ⟨_,rfl⟩
theorem Y0 {F:Fence} {n:Nat} {O:Oper} {a:Act} {w w':World} {next:Act→World→Prop} {Q:Exit→Act→World→Prop} {v:Value} (hF:WideF F) (hd:∀ c,O.op≠.defer c) (h:(execOp a.eval O).run P w=.ok (.value v) w') (hn:next (a.put O.dst v) w'):O.wpIn F n P a w next Q:=by
  refine ⟨fun f _=>hF.fn f,?_⟩
  rw [Oper.semAt_eq _ _ _ hd,h];exact hn
theorem Qah {F:Fence} {n:Nat} {O:Oper} {a:Act} {w w':World} {next:Act→World→Prop} {Q:Exit→Act→World→Prop} (hF:WideF F) (hd:∀ c,O.op≠.defer c) (h:(execOp a.eval O).run P w=.ok .skip w') (hn:next (a.put O.dst undef) w'):O.wpIn F n P a w next Q:=by
  refine ⟨fun f _=>hF.fn f,?_⟩
  rw [Oper.semAt_eq _ _ _ hd,h];exact hn
theorem WJ {o:Option (AV × H)} {k:AV→H→Prop} (h:op2 o k):∃ r h',o=some (r,h')∧k r h':=by
  unfold op2 at h;split at h
  · exact ⟨_,_,rfl,h⟩
  · exact h.elim
theorem Nq {o:Option H} {k:AV→H→Prop} (h:op1 o k):∃ h',o=some h'∧k .junk h':=by
  unfold op1 at h;split at h
  · exact ⟨_,rfl,h⟩
  · exact h.elim
theorem QcZ : ∀ {ps : List Nat} {as : List AV} {vs : List Value}, as.length = ps.length → AV.relL μ as vs → ∀ {env : List AV} {tmps : Array Value}, EnvRel μ env tmps →
    EnvRel μ (QdS ps as env) ((ps.zip vs).foldl (fun tmps (t,a)=>tmps.setIfInBounds t a) tmps)
  | [], as, vs, hl, hr, env, tmps, he => by
    cases as with
    | nil=>simpa [QdS] using he
    | cons=>simp at hl
  | p::ps,[],vs,hl,hr,env,tmps,he=>by simp at hl
  | p :: ps, a :: as, vs, hl, hr, env, tmps, he => by
    obtain ⟨v,vs',rfl,h1,h2⟩:=AV.relL_cons.1 hr
    simp only [QdS,List.zip_cons_cons,List.foldl_cons]
    refine QcZ (by simpa using hl) h2 ⟨fun t=>?_,by rw [YY];simpa using he.len⟩
    rw [YY]
    by_cases hp:p=t
    · subst hp
      by_cases hlt:p < env.length
      · have := he.len
        simp [hlt,show p < tmps.size from by omega,h1]
      · simp [hlt,AV.rel]
    · have := he.get t
      simpa [hp,Array.getElem?_setIfInBounds_ne hp] using this
theorem Up {id:Nat} {st:LoopState} {pend:Option Code} {h:H} {k:H→Prop} (e:Zr id st pend h k) :
    ∃ s0 p0 ps a b env h',h.get id=.loop s0 p0 ps a b env∧h.put id (.loop st pend ps a b env)=some h'∧k h':=by
  unfold Zr at e
  split at e
  · rename_i s0 p0 ps a b env hg
    rw [ZK] at e
    obtain ⟨h',h1,h2⟩:=e
    exact ⟨_,_,_,_,_,_,h',hg,h1,h2⟩
  · exact e.elim
theorem XC {h h':H} {w:World} {id b:Nat} {s0 st:LoopState} {p0 pend:Option Code} {ps:List Nat} {a bd:Code} {env:List AV} (hR:Rel μ h w) (hm:μ id=some (b,0)) (hg:h.get id=.loop s0 p0 ps a bd env)
    (hp:h.put id (.loop st pend ps a bd env)=some h'):∃ r,w.heap[b]?=some (.loop r)∧r.state=s0∧r.pending=p0∧∀ r',r'={ r with state:=st,pending:=pend }→Post μ h w μ h' (w.putObj b (.loop r')):=by
  have hb:=hR.blk id b 0 hm
  rw [hg] at hb
  obtain ⟨_,r,hh,h1,h2,h3,h4,h5,h6⟩:=hb
  exact ⟨r,hh,h1,h2,fun r' hr'=>by subst hr';exact Yz hR hm (by rw [hg];rfl) hp hh (by simp) fun w' hw'=>⟨rfl,_,hw',rfl,rfl,h3,h4,h5,h6⟩⟩
theorem yield_ok {F : Fence} {m : Nat} {G : Gam} (hG : Wm P G) (hF : WideF F) {id : Nat} {as : List AV} {h : H} {w : World} {k : AV → H → Prop} {b : Nat} {args : Array Value}
    (e:Xh G id as h k) (hR:Rel μ h w) (hm:μ id=some (b,0)) (ha:AV.relL μ as args.toList) :
    ∃ fn tmps assign body, (Instr.yield b args).run P w = .ok (.round b fn tmps assign body) w ∧
      RoundIn F m P b fn tmps assign body w fun e w'=>∃ v μ' r h',e=.returned v∧r.rel μ' v∧Post μ h w μ' h' w'∧k r h':=by
  unfold Xh at e
  split at e
  · rename_i s0 p0 ps a bd env hg
    split at e
    · rename_i hlen
      rw [Nat.beq_eq] at hlen
      have hb:=hR.blk id b 0 hm
      rw [hg] at hb
      obtain ⟨_,r,hh,h1,h2,h3,h4,h5,h6⟩:=hb
      have hsz:args.size=r.params.size:=by
        have:=AV.relL_length ha
        rw [h3];simp at this ⊢;omega
      have hy:=run_yield (P:=P) hh hsz
      rw [h4,h5] at hy
      refine ⟨r.fn,_,a,bd,hy,roundIn_of_wpIn (hF.fn _) ?_⟩
      rw [hF.round]
      have henv:EnvRel μ (QdS ps as env) ((r.params.zip args).foldl (fun tmps (t,a)=>tmps.setIfInBounds t a) r.tmps):=by
        have:=QcZ (μ:=μ) (env:=env) (tmps:=r.tmps) hlen ha h6
        rw [← Array.foldl_toList,Array.toList_zip,h3];exact this
      refine wpIn_mono (hG.code a _ _ _ _ e b m μ { tmps:=_,defers:=[] } w henv rfl hR) fun ex a1 w1 hx=>?_
      obtain ⟨μ1,e1,d1,h1',st1,l1⟩:=hx
      cases ex <;> simp only [Ux] at l1 <;> try exact l1.elim
      split at l1
      · rename_i pend _ _ _ _ hg1
        obtain ⟨s2,p2,ps2,a2,b2,env2,h2',hg2,hp2,l2⟩:=Up l1
        rw [hg1] at hg2;injection hg2 with e1 e2 e3 e4 e5 e6;subst e1 e2 e3 e4 e5 e6
        have hm1:μ1 id=some (b,0):=(hR.ext_le st1.post.ext _ _ hm).1
        obtain ⟨r1,hr1,hs1,hp1,hpost⟩:=XC st1.post.rel hm1 hg1 hp2
        have post2:=hpost { r1 with state:=.busy } (by rw [← hp1])
        refine ⟨_,run_beginRound hr1 hs1,?_⟩
        refine wpIn_mono (hG.code _ _ _ _ _ l2 b m μ1 a1 _ st1.env st1.defers post2.rel) fun ex2 a2 w2 hx2=>?_
        obtain ⟨μ3,e3,d3,h3',st3,l3⟩:=hx2
        have hm3:μ3 id=some (b,0):=(post2.rel.ext_le st3.post.ext _ _ hm1).1
        have full:=(st1.post.trans post2).trans st3.post
        have fin:∀ (jump:Option Code) (st:LoopState) (K:H→Prop),st=(if jump.isNone then .ready else .done)→Zr id st jump h3' K→∃ w4 h4,(Instr.endRound b jump).run P w2=.ok (.bool jump.isNone) w4∧Post μ h w μ3 h4 w4∧K h4:=by
          intro jump st K hst hset
          obtain ⟨s4,p4,ps4,a4,b4,env4,h4,hg4,hp4,l4⟩:=Up hset
          obtain ⟨r4,hr4,_,_,hpost4⟩:=XC st3.post.rel hm3 hg4 hp4
          exact ⟨_,h4,run_endRound jump hr4,full.trans (hpost4 _ (by rw [hst])),l4⟩
        cases ex2 <;> simp only [Ux] at l3 <;> try exact l3.elim
        · obtain ⟨w4, h4, q1, q2, q3⟩ := fin none .ready _ rfl l3
          exact ⟨_,w4,q1,_,μ3,.bool true,h4,rfl,by simp [AV.rel],q2,q3⟩
        · rename_i i
          obtain ⟨w4,h4,q1,q2,q3⟩:=fin (some (.exit i)) .done _ rfl l3
          exact ⟨_,w4,q1,_,μ3,.bool false,h4,rfl,by simp [AV.rel],q2,q3⟩
        · obtain ⟨w4, h4, q1, q2, q3⟩ := fin (some .ret) .done _ rfl l3
          exact ⟨_,w4,q1,_,μ3,.bool false,h4,rfl,by simp [AV.rel],q2,q3⟩
      · exact l1.elim
    · exact e.elim
  · exact e.elim
include hT in
theorem opW_ok {F : Fence} {n : Nat} {G : Gam} (hG : Wm P G) (hF : WideF F) {O : Oper} {a : Act} {h : H} {w : World} {K : AV → H → Prop} {next : Act → World → Prop} {Q : Exit → Act → World → Prop} (e : opW T G O.op ρa h K) (hr : Wz μ ρa a.eval) (hR : Rel μ h w)
    (hn:∀ v w' μ' r h',r.rel μ' v→Post μ h w μ' h' w'→K r h'→next (a.put O.dst v) w'):O.wpIn F n P a w next Q:=by
  obtain ⟨dst,op,type,pos,after,guard⟩:=O
  simp only at e
  unfold opW at e
  split at e
  case h_1 t x y=>
    split at e
    · rename_i hc
      rw [Bool.and_eq_true,Qk] at hc
      obtain ⟨h1,hs,hk⟩:=Nq e
      obtain ⟨w',q1,q2⟩:=store_ok hT hc.1 hR hs (hr x) (hr y)
      refine Qah hF (by simp) ?_ (hn undef w' μ _ _ (by simp [AV.rel]) q2 hk)
      simp only [execOp,Sem.run_bind,q1,Result.andThen_ok,Sem.run_pure]
    · exact e.elim
  case h_2 t m i v=>
    split at e
    · rename_i kt et hk
      obtain ⟨h1,hs,hK⟩:=Nq e
      obtain ⟨w',q1,q2⟩:=DC hT hk hR hs (hr m) (hr i) (hr v)
      refine Qah hF (by simp) ?_ (hn undef w' μ _ _ (by simp [AV.rel]) q2 hK)
      simp only [execOp,Sem.run_bind,q1,Result.andThen_ok,Sem.run_pure]
    · exact e.elim
  case h_3 t=>
    obtain ⟨r,h',hs,hK⟩:=WJ e
    obtain ⟨v,w',μ',q1,q2,q3⟩:=makeMap_ok (P:=P) (t:=t) hR hs
    refine Y0 hF (by simp) ?_ (hn v w' μ' r h' q2 q3 hK)
    simp only [execOp,Option.map_none,Sem.run_bind,q1,Result.andThen_ok,Sem.run_pure]
  case h_4 t x=>
    split at e
    · rename_i kt et hk
      obtain ⟨r,h',v,w',μ',hK,q1,q2,q3⟩:=range_ok hT hk hR e (hr x)
      refine Y0 hF (by simp) ?_ (hn v w' μ' r h' q2 q3 hK)
      simp only [execOp,Sem.run_bind,q1,Result.andThen_ok,Sem.run_pure]
    · exact e.elim
  case h_5 i=>
    obtain ⟨r,h',v,w',hK,q1,q2,q3⟩:=next_ok (P:=P) (ty:=type) hR e (hr i)
    refine Y0 hF (by simp) ?_ (hn v w' μ r h' q2 q3 hK)
    simp only [execOp,Sem.run_bind,q1,Result.andThen_ok,Sem.run_pure]
  case h_6 args argTypes=>
    split at e
    · rename_i s x t t2 ha ht
      have ea:args=#[s,x]:=Array.toList_inj.1 ha
      have et:argTypes=#[t,t2]:=Array.toList_inj.1 ht
      subst ea et
      have fin:∀ {r:AV} {h':H},K r h'→WOk P μ h w (Builtin.append_ #[t,t2] type #[a.eval s,a.eval x]) r h'→Oper.wpIn F n P ⟨dst,.call { callee:=.builtin .append,args:=#[s,x],argTypes:=#[t,t2] },type,pos,after,guard⟩ a w next Q:=by
        rintro r h' hK ⟨v,w',μ',q1,q2,q3⟩
        refine Y0 hF (by simp) ?_ (hn v w' μ' r h' q2 q3 hK)
        simp only [execOp,resolve,Sem.run_bind,Sem.run_pure,Result.andThen_ok,invoke,builtin,List.map_toArray,List.map_cons,List.map_nil]
        rw [q1];rfl
      split at e
      · rename_i e' hk
        split at e
        · rename_i hc
          rw [Bool.and_eq_true] at hc
          obtain ⟨h1,h2,h3,h4⟩:=Xm hc.1
          have h5:=strOrSlice_iff hc.2
          split at e
          · rename_i hu
            simp only [Bool.and_eq_true,Nat.beq_eq] at hu
            obtain ⟨r,h',hs,hK⟩:=WJ e
            exact fin hK (appendB_ok hT hk (Ja hu.1.1) hu.1.2 hu.2 (by rw [h3,hu.1.2]) h5 hR hs (hr s) (hr x))
          · obtain ⟨r, h', hs, hK⟩ := WJ e
            exact fin hK (appendC_ok hT hk h1 h2 h4 h3 h5 hR hs (hr s) (hr x))
        · exact e.elim
      · exact e.elim
    · exact e.elim
  case h_7 args argTypes=>
    split at e
    · rename_i m i t t2 ha ht
      have ea:args=#[m,i]:=Array.toList_inj.1 ha
      have et:argTypes=#[t,t2]:=Array.toList_inj.1 ht
      subst ea et
      split at e
      · rename_i kt et hk
        split at e
        · rename_i h' hs
          obtain ⟨w',q1,q2⟩:=mapDel_ok (t2:=t2) (ty:=type) hT hk hR hs (hr m) (hr i)
          refine Y0 hF (by simp) (v:=.tuple #[]) (w':=w') ?_ (hn _ w' μ _ _ ?_ q2 e)
          · simp only [execOp, resolve, Sem.run_bind, Sem.run_pure, Result.andThen_ok, invoke, builtin, List.map_toArray, List.map_cons, List.map_nil]
            rw [q1];rfl
          · simp only [AV.rel];exact ⟨_,rfl,AV.relL_nil.2 rfl⟩
        · exact e.elim
      · exact e.elim
    · exact e.elim
  case h_8 b args argTypes _ _=>
    obtain ⟨r,h',hs,hK⟩:=WJ e
    obtain ⟨v,w',μ',q1,q2,q3⟩:=biW_ok hT (ty:=type) (cs:=args.map (· matches .const _)) hR hs (VE hr _)
    refine Y0 hF (by simp) ?_ (hn v w' μ' r h' q2 q3 hK)
    simp only [execOp,resolve,Sem.run_bind,Sem.run_pure,Result.andThen_ok,invoke]
    rw [show (args.toList.map a.eval).toArray=args.map a.eval from by rw [← Array.toList_map]] at q1
    simp only [Array.toArray_toList] at q1;exact q1
  case h_9 f args argTypes=>
    split at e
    · rename_i g first captured hf
      have hfr:=hr f
      rw [hf] at hfr;simp only [AV.rel] at hfr
      obtain ⟨f',c',hv,h1,h2⟩:=hfr
      have hargs:AV.relL μ (first++(args.toList.map ρa++captured)) (f'++args.map a.eval++c').toList:=by
        simp only [Array.toList_append,Array.toList_map,List.append_assoc]
        exact AV.relL_append h1 (AV.relL_append (VE hr _) h2)
      have hrun:(execOp a.eval ⟨dst,.call { callee:=.value f,args:=args,argTypes:=argTypes },type,pos,after,guard⟩).run P w=(callFunc g (f'++args.map a.eval++c')).run P w:=by
        simp only [execOp,resolve,hv,Deferred.ofValue,Sem.run_bind,Sem.run_pure,Result.andThen_ok,invoke]
      rcases hG.fn g _ _ _ e μ w _ hR hargs with ⟨v,w',μ',r,h',q1,q2,q3,q4⟩ | ⟨q1,q2⟩
      · exact Y0 hF (by simp) (hrun.trans q1) (hn v w' μ' r h' q2 q3 q4)
      · refine ⟨fun f _ => hF.fn f, ?_⟩
        rw [Oper.semAt_eq _ _ _ (by simp),hrun,q1,Oper.uponIn_enter]
        refine ⟨fun hd=>(by rw [hF.depth] at hd;cases hd),CallsIn.mono (hF.calls q2) fun e' w' he=>?_⟩
        obtain ⟨v,μ',r,h',rfl,q3,q4,q5⟩:=he
        exact hn v w' μ' r h' q3 q4 q5
    · rename_i id hf
      have hfr:=hr f
      rw [hf] at hfr;simp only [AV.rel] at hfr
      obtain ⟨b,hm,hv⟩:=hfr
      obtain ⟨fn,tmps,assign,body,q1,q2⟩:=yield_ok (m:=n - 1) hG hF (args:=args.map a.eval) e hR hm (by rw [Array.toList_map];exact VE hr _)
      have hrun:(execOp a.eval ⟨dst,.call { callee:=.value f,args:=args,argTypes:=argTypes },type,pos,after,guard⟩).run P w=.ok (.round b fn tmps assign body) w:=by
        simp only [execOp,resolve,hv,Deferred.ofValue,Sem.run_bind,Sem.run_pure,Result.andThen_ok,invoke]
        simpa using q1
      refine ⟨fun f _=>hF.fn f,?_⟩
      rw [Oper.semAt_eq _ _ _ (by simp),hrun,Oper.uponIn_round]
      refine ⟨fun hd=>(by rw [hF.depth] at hd;cases hd),RoundIn.mono q2 fun e' w' he=>?_⟩
      obtain ⟨v,μ',r,h',rfl,q3,q4,q5⟩:=he
      exact hn v w' μ' r h' q3 q4 q5
    · exact e.elim
  case h_10 s d x =>
    unfold markK at e
    split at e
    · rename_i e0 e1 hsame hs hd
      rw [Nat.beq_eq] at hsame;subst hsame
      split at e
      · rename_i hu
        split at e
        · rename_i p hp
          split at e
          · rename_i h' hput
            unfold aMark at hp
            split at hp
            · rename_i id off len cap es ex hx
              split at hp
              · rename_i t0 str hg
                split at hp
                rotate_left
                · cases hp
                rename_i hcap
                injection hp with hp;subst hp
                have hxr:=hr x
                rw [hx] at hxr
                obtain ⟨w',q1,q2⟩:=mark_ok hT hs (Ja hu) hR hg hput ((QH _ _).1 hcap) hxr
                refine Y0 hF (by simp) ?_ (hn _ w' μ _ _ (by rw [hx];exact hxr) q2 e)
                simp only [execOp,Sem.run_bind,q1,Result.andThen_ok,Sem.run_pure]
              · cases hp
            · cases hp
          · exact e.elim
        · exact e.elim
      · exact e.elim
    · exact e.elim
  case h_11 t m i v=>
    split at e
    · rename_i kt et hk
      obtain ⟨h1,hs,hK⟩:=Nq e
      obtain ⟨w',q1,q2⟩:=DC hT hk hR hs (hr m) (hr i) (hr v)
      refine Qah hF (by simp) ?_ (hn undef w' μ _ _ (by simp [AV.rel]) q2 hK)
      simp only [execOp,Sem.run_bind,q1,Result.andThen_ok,Sem.run_pure]
    · exact e.elim
  case h_12 t x lo hi=>
    split at e
    · rename_i n el hk
      split at e
      · rename_i hc
        rw [Bool.and_eq_true,Nat.beq_eq] at hc
        obtain ⟨r,h',hs,hK⟩:=WJ e
        obtain ⟨z,q1,q2,q3⟩:=sliceArr_ok hT hk (Ja hc.1) hc.2 hR hs (hr x) (VC hr lo) (VC hr hi)
        refine Y0 hF (by simp) ?_ (hn z w μ r h' q2 q3 hK)
        simp only [execOp,Option.map_none,Sem.run_bind,q1,Result.andThen_ok,Sem.run_pure]
      · exact e.elim
    · exact e.elim
  case h_13=>exact e.elim
theorem opX_nd {G:Gam} {o:Op} {h:H} {K:AV→H→Prop} (e:opX T G o ρa h K):∀ c,o≠.defer c:=by
  rintro c rfl
  exact e
include hT in
theorem Qes {F : Fence} {n : Nat} {G : Gam} (hG : Wm P G) (hF : WideF F) {O : Oper} {a : Act} {h : H} {w : World} {K : AV → H → Prop} {next : Act → World → Prop} {Q : Exit → Act → World → Prop} (e : opX T G O.op ρa h K) (hr : Wz μ ρa a.eval) (hR : Rel μ h w)
    (hn:∀ v w' μ' r h',r.rel μ' v→Post μ h w μ' h' w'→K r h'→next (a.put O.dst v) w'):O.wpIn F n P a w next Q:=by
  have hd:=opX_nd e
  unfold opX at e
  split at e
  · split at e
    · rename_i v hv
      obtain ⟨x,h1,h2⟩:=Qet hT hv hr
      exact Y0 hF hd (h1 w) (hn x w μ v h h2 (Post.refl hR) e)
    · exact e.elim
  · split at e
    · rename_i v hv
      obtain ⟨x,h1,h2⟩:=Qcf hT hv hr hR
      exact Y0 hF hd h1 (hn x w μ v h h2 (Post.refl hR) e)
    · exact e.elim
  · obtain ⟨r, h', hs, hK⟩ := WJ e
    unfold aNew at hs
    split at hs
    · rename_i k f hkf
      split at hs
      · rename_i n h1' hp
        injection hs with hs;injection hs with e1 e2;subst e1 e2
        obtain ⟨v,ob,w',q1,q2,q3,q4,q5,q6,_,cs,t,fr,rfl,q7⟩:=Qeu hT hkf hr w
        obtain ⟨rfl,hpost⟩:=Xr (s:=cs.size) hR hp q3 q4 q5 q2 (fun _ _ _ e=>by injection e with e1;rw [e1]) (q6 _ (Un _ _ fun p hm=>by have:=(hR.dom _ p.1 p.2 hm).1;omega))
        exact Y0 hF hd q1 (hn v w' _ _ _ (q7 _ _ (Ze _ _ _ _) (UW _ _ _ _)) hpost hK)
      · cases hs
    · cases hs
  · exact opW_ok hT hG hF e hr hR hn
end
end Go.Am
namespace Go.Am
open Go
theorem GB (dst:Option Nat) (v:AV) (env:List AV):(put dst v env).length=env.length:=by
  cases dst with
  | none=>rfl
  | some d=>show (XB env d v).length=_;rw [YY];simp
theorem QcY (dst:Option Nat) (v:AV) (env:List AV) (t:Nat) (h:dst≠some t):(put dst v env).getD t .junk=env.getD t .junk:=by
  cases dst with
  | none=>rfl
  | some d =>
    have:d≠t:=fun e=>h (by rw [e])
    show (XB env d v).getD t .junk=_
    rw [YY];simp [this]
theorem Qbm (d:Nat) (v:AV) (env:List AV):(put (some d) v env).getD d .junk=if d < env.length then v else .junk:=by
  show (XB env d v).getD d .junk=_
  rw [YY];simp only [List.getD_eq_getElem?_getD,List.getElem?_set,if_true]
  split <;> rfl
theorem EnvRel.put {μ : Mu} {env : List AV} {a : Act} (h : EnvRel μ env a.tmps) (dst : Option Nat) {r : AV} {v : Value} (hv : r.rel μ v) : EnvRel μ (put dst r env) (a.put dst v).tmps := by
  cases dst with
  | none=>exact h
  | some d =>
    refine ⟨fun t=>?_,by rw [GB];simpa [Act.put] using h.len⟩
    by_cases e:d=t
    · subst e
      rw [Qbm]
      split
      · rename_i hd
        have:=h.len
        have hd':d < a.tmps.size:=by omega
        simp [Act.put,hd',hv]
      · simp [AV.rel]
    · rw [QcY _ _ _ _ (fun x => by injection x with x; exact e x)]
      have:=h.get t
      simpa [Act.put,Array.getElem?_setIfInBounds_ne e] using this
theorem VA (a:Act) (d:Option Tmp) (v:Value):(a.put d v).defers=a.defers:=by cases d <;> rfl
theorem put_tmps_defers (a:Act) (ds:List Deferred) (d:Option Tmp) (v:Value):({ a with defers:=ds }.put d v).tmps=(a.put d v).tmps:=by cases d <;> rfl
theorem Db {μ:Mu} {ops:Array Oper} {o oj:Oper} {env:List AV} {tmps:Array Value} {j d:Nat} {want b:Bool} (hg:o.guard=some (j,want)) (hj:ops.toList[j]?=some oj) (hd:oj.dst=some d) (hb:Wi .junk env d=.bool b)
    (he:(env.getD d .junk).rel μ (tmps.getD d undef)):Region.wanted o (yielded ops tmps)=(b == want):=by
  rw [← Z5,hb] at he
  simp only [AV.rel] at he
  have hd2:tmps[d]?=some (.bool b):=by
    rw [Array.getD_eq_getD_getElem?] at he
    cases hx:tmps[d]? with
    | none=>rw [hx] at he;simp [undef] at he
    | some v=>rw [hx] at he;simp at he;rw [he]
  rw [Array.getElem?_toList] at hj
  have hy:yielded ops tmps j=some b:=by simp [yielded,hj,hd,hd2]
  unfold Region.wanted
  rw [hg]
  show (yielded ops tmps j == some want)=_
  rw [hy];cases b <;> cases want <;> rfl
theorem Gb {μ:Mu} {ops:Array Oper} {o oj:Oper} {env:List AV} {tmps:Array Value} {j d:Nat} {want:Bool} (hg:o.guard=some (j,want)) (hj:ops.toList[j]?=some oj) (hd:oj.dst=some d) (hb:Wi .junk env d=Qb)
    (he:(env.getD d .junk).rel μ (tmps.getD d undef)):Region.wanted o (yielded ops tmps)=false:=by
  rw [← Z5,hb] at he
  have hu:tmps.getD d undef=.tuple #[]:=by
    simp only [Qb,AV.rel] at he
    obtain ⟨vs,h1,h2⟩:=he
    rw [AV.relL_nil] at h2
    rw [h1,Array.toList_eq_nil_iff.1 h2]
  rw [Array.getElem?_toList] at hj
  have hy:yielded ops tmps j=none:=by
    rw [Array.getD_eq_getD_getElem?] at hu
    cases hx:tmps[d]? with
    | none=>simp [yielded,hj,hd,hx]
    | some v=>rw [hx] at hu;simp at hu;subst hu;simp [yielded,hj,hd,hx]
  unfold Region.wanted
  rw [hg]
  show (yielded ops tmps j == some want)=_
  rw [hy];rfl
theorem Xi {μ:Mu}:AV.rel μ Qb undef:=by simp only [Qb,AV.rel];exact ⟨#[],rfl,AV.relL_nil.2 rfl⟩
def YI (all:List Oper) (o:Oper):List Nat :=
  match o.guard with
  | some (g,_)=>((all[g]?).bind (·.dst)).toList
  | none=>[]
theorem guardK_ok {J : Qh} {μ : Mu} {ops : Array Oper} {o : Oper} {env : List AV} {h : H} {tmps : Array Value} {run : (AV → H → Prop) → Prop} {k : AV → H → Prop} (e : Ww J ops.toList o env h run k) (he : ∀ d ∈ YI ops.toList o, (env.getD d .junk).rel μ (tmps.getD d undef)) :
    (Region.wanted o (yielded ops tmps)=true∧run k)∨(Region.wanted o (yielded ops tmps)=false∧k Qb h):=by
  unfold Ww at e
  split at e
  · rename_i hg
    exact .inl ⟨by unfold Region.wanted;rw [hg],e⟩
  · rename_i j want hg
    split at e
    · rename_i oj hj
      split at e
      · rename_i d hd
        rw [J.jn_ok,NV] at e
        rcases e with ⟨b,hb,e⟩ | ⟨hb,e⟩
        · have hw := Db hg hj hd hb (he d (by unfold YI; simp [hg, hj, hd]))
          rw [hw]
          split at e
          · rw [Yf] at e
            rcases e with ⟨rfl,e⟩ | ⟨rfl,e⟩
            · exact .inl ⟨rfl,e⟩
            · exact .inr ⟨rfl,e⟩
          · rw [Yf] at e
            rcases e with ⟨rfl,e⟩ | ⟨rfl,e⟩
            · exact .inr ⟨rfl,e⟩
            · exact .inl ⟨rfl,e⟩
        · exact .inr ⟨Gb hg hj hd hb (he d (by unfold YI;simp [hg,hj,hd])),e⟩
      · exact e.elim
    · exact e.elim
theorem St.refl {μ:Mu} {h:H} {w:World} {a:Act} {env:List AV} {ds:List Dfr} (hr:Rel μ h w) (he:EnvRel μ env a.tmps) (hd:DfrRel μ ds a.defers):St μ h w μ env ds h a w:=⟨Post.refl hr,he,hd⟩
theorem St.trans {μ μ' μ'':Mu} {h h' h'':H} {w w' w'':World} {a' a'':Act} {e' e'':List AV} {d' d'':List Dfr} (p:St μ h w μ' e' d' h' a' w') (q:St μ' h' w' μ'' e'' d'' h'' a'' w''):St μ h w μ'' e'' d'' h'' a'' w'' :=
  ⟨p.post.trans q.post,q.env,q.defers⟩
section
variable {P:Program} {T:Ty} (hT:YN P T)
include hT in
theorem opF_ok {F:Fence} {n:Nat} {G:Gam} (hG:Wm P G) (hF:WideF F) {ty:Nat} {μ:Mu} {ρa:Operand→AV} {O:Oper} {a:Act} {h:H} {w:World} {K:AV→H→Prop} {next:Act→World→Prop} {Q:Exit→Act→World→Prop} (e:opF T G ty O.op ρa h K) (hr:Wz μ ρa a.eval) (hR:Rel μ h w)
    (hn:∀ v w' μ' r h',r.rel μ' v→Post μ h w μ' h' w'→K r h'→next (a.put O.dst v) w'):O.wpIn F n P a w next Q:=by
  obtain ⟨K',h1,h2⟩:=GD e
  exact Qes hT hG hF h1 hr hR fun v w' μ' r h' q1 q2 q3=>hn v w' μ' r h' q1 q2 (h2 r h' q3)
include hT in
theorem Xl {F : Fence} {n : Nat} {G : Gam} (hG : Wm P G) (hF : WideF F) {top : Bool} (htop : top = true → F.round = none) {ops : Array Oper} {k : List AV → List Dfr → H → Prop} {Q : Exit → Act → World → Prop} :
    ∀ (r : List Oper) (i : Nat), ops.toList.drop i = r → ∀ (env : List AV) (ds : List Dfr) (h : H) (μ : Mu) (a : Act) (w : World), Uq T G top ops.toList r env ds h k → EnvRel μ env a.tmps → DfrRel μ ds a.defers → Rel μ h w →
      (∀ μ' env' ds' h' a' w',St μ h w μ' env' ds' h' a' w'→k env' ds' h'→env'.length=env.length→Q .normal a' w') →
      wpOpsIn F n P ops Q (List.range' i r.length) a w
  | [], i, hd, env, ds, h, μ, a, w, e, he, hds, hR, hq => by
    simp only [List.length_nil,List.range'_zero,wpOpsIn]
    exact hq μ env ds h a w (St.refl hR he hds) e rfl
  | o :: r, i, hd, env, ds, h, μ, a, w, e, he, hds, hR, hq => by
    have hi:ops[i]?=some o:=by
      rw [← Array.getElem?_toList]
      have:(ops.toList.drop i)[0]?=some o:=by rw [hd];rfl
      simpa using this
    have hd':ops.toList.drop (i+1)=r:=by
      rw [← List.drop_drop,hd];rfl
    have step:∀ {r':AV} {h':H} {v:Value} {w':World} {μ':Mu},(Xq o.dst r' env fun env=>Uq T G top ops.toList r env ds h' k)→r'.rel μ' v→Post μ h w μ' h' w' →
        wpOpsIn F n P ops Q (List.range' (i+1) r.length) (a.put o.dst v) w':=by
      intro r' h' v w' μ' e' hv hp
      rw [WY] at e'
      have hle:=hR.ext_le hp.ext
      have he':=(he.mono hle).put o.dst hv
      have hds':DfrRel μ' ds (a.put o.dst v).defers:=by rw [VA];exact hds.mono hle
      refine Xl hG hF htop r (i+1) hd' _ _ _ μ' _ _ e' he' hds' hp.rel fun μ'' env'' ds'' h'' a'' w'' hs hk hl=>?_
      exact hq μ'' env'' ds'' h'' a'' w'' (St.trans ⟨hp,he',hds'⟩ hs) hk (by rw [hl,GB])
    simp only [List.length_cons,List.range'_succ,wpOpsIn,hi]
    unfold Uq at e
    split at e
    ·
      rename_i c hop
      split at e
      · rename_i f hg hcal
        split at e
        · rename_i g first captured hf
          rw [WY] at e
          have hw:Region.wanted o (yielded ops a.tmps)=true:=by unfold Region.wanted;rw [hg]
          rw [hw];simp only [if_true]
          refine ⟨fun f _=>hF.fn f,?_⟩
          have hfr:=XQ he f
          rw [hf] at hfr;simp only [AV.rel] at hfr
          obtain ⟨f',c',hv,h1,h2⟩:=hfr
          have hrun:(o.semAt F.round a.eval).run P w=.ok (.defer { target:=.fn (.func g) c',args:=f'++c.args.map a.eval }) w:=by
            rw [htop rfl,Oper.semAt_none]
            simp only [execOp,hop,resolve,hcal,hv,Deferred.ofValue,Sem.run_bind,Sem.run_pure,Result.andThen_ok]
          rw [hrun,Oper.uponIn_defer]
          have he':=he.put o.dst (r:=.junk) (v:=undef) (by simp [AV.rel])
          have hds':DfrRel μ (.call g (first++c.args.toList.map (ev env)) captured::ds) ({ a with defers:={ target:=.fn (.func g) c',args:=f'++c.args.map a.eval }::a.defers }.put o.dst undef).defers:=by
            rw [VA]
            refine ⟨_,_,_,rfl,?_,h2,hds⟩
            simp only [Array.toList_append,Array.toList_map]
            exact AV.relL_append h1 (VE (XQ he) _)
          refine Xl hG hF htop r (i+1) hd' _ _ _ μ _ _ e (by rw [put_tmps_defers];exact he') hds' hR fun μ'' env'' ds'' h'' a'' w'' hs hk hl=>?_
          exact hq μ'' env'' ds'' h'' a'' w'' hs hk (by rw [hl,GB])
        · exact e.elim
      · exact e.elim
    · rcases guardK_ok e (fun d _ => he.get d) with ⟨hw, e⟩ | ⟨hw, e⟩
      · rw [hw]
        simp only [if_true]
        exact opF_ok hT hG hF e (XQ he) hR fun v w' μ' r' h' hv hp hk=>step hk hv hp
      · rw [hw]
        simp only [Bool.false_eq_true,if_false]
        exact ⟨fun f _=>hF.fn f,step e Xi (Post.refl hR)⟩
end
end Go.Am
