import Derived.Test.YtodlaigjjknpkaaGreatDoorAmL6
import Derived.ProofKit
import Derived.WideShapes
import Derived.OpenShut
import Derived.LaidLaws
import Derived.Lib.MakeNoZero
noncomputable section
set_option linter.all false
namespace Go.Am
open Go
def zrel : AV→Value→Bool
  | .bool a,.bool b=>a == b
  | .int k n,.int k' m=>decide (k = k') && n == m
  | .str s,.string b=>b.data.toList.isEmpty && s.len == 0 && s.val == 0
  | .nilp,.pointer none=>true
  | .nils,.slice none 0 0=>true
  | .nilm,.map none=>true
  | .nilf,.nilFunc=>true
  | .nili,.nilIface=>true
  | .junk,_=>true
  | _,_=>false
def Qa9 : List AV→List Value→Bool
  | [],[]=>true
  | a :: as,v :: vs=>zrel a v && Qa9 as vs
  | _,_=>false
theorem zrel_ok {μ : Mu} {a : AV} {v : Value} (h : zrel a v = true) : a.rel μ v:=by
  unfold zrel at h
  split at h <;> simp only [AV.rel,Bool.and_eq_true,beq_iff_eq,decide_eq_true_eq,Bool.false_eq_true] at h ⊢
  · rw [h]
  · rw [h.1,h.2]
  · rename_i s b
    refine ⟨b,rfl,?_⟩
    obtain ⟨⟨h1,h2⟩,h3⟩:=h
    rw [List.isEmpty_iff] at h1
    rw [h1]
    cases s; simp only at h2 h3; subst h2 h3; rfl
theorem Du {μ : Mu} : ∀ {as : List AV} {vs : List Value},Qa9 as vs = true→AV.relL μ as vs
  | [],[],_=>AV.relL_nil.2 rfl
  | a :: as, v :: vs, h => by
    simp only [Qa9,Bool.and_eq_true] at h
    exact AV.relL_cons.2 ⟨v,vs,rfl,zrel_ok h.1,Du h.2⟩
  | [],_ :: _,h=>by cases h
  | _ :: _,[],h=>by cases h
def kdB : Kd→TypeDesc→Bool
  | .bool,.bool=>true
  | .int k,.int k'=>decide (k = k')
  | .str,.string=>true
  | .unsafe_,.unsafePointer=>true
  | .ptr e,.pointer e'=>Nat.beq e e'
  | .slice e,.slice e'=>Nat.beq e e'
  | .arr n e,.array n' e'=>Nat.beq n n' && Nat.beq e e'
  | .struct fs,.struct fields=>decide (fs = fields.toList.map (fun f=>(f.offset,f.type)))
  | .map k e,.map k' e'=>Nat.beq k k' && Nat.beq e e'
  | .func,.func _ _ _=>true
  | .iface,.interface _=>true
  | _,_=>false
theorem kdB_ok {k : Kd} {d : TypeDesc} (h : kdB k d = true) : Uv k d:=by
  unfold kdB at h
  split at h <;> simp only [Bool.and_eq_true,Nat.beq_eq,decide_eq_true_eq,Bool.false_eq_true] at h
  · rfl
  · rw [h]; rfl
  · rfl
  · rfl
  · rw [h]; rfl
  · rw [h]; rfl
  · rw [h.1,h.2]; rfl
  · exact ⟨_,rfl,h⟩
  · rw [h.1,h.2]; rfl
  · exact ⟨_,_,_,rfl⟩
  · exact ⟨_,rfl⟩
def aggB : Value→Bool
  | .agg _=>true
  | _=>false
def Qc7 (ti : TI) (i : TypeInfo) : Bool :=
  i.size == ti.size && i.bytes == ti.bytes && (!ti.kd.simple || i.comparable) && (match i.zero with
    | some z=>Qa9 ti.zero z.cells.toList && (ti.kd.agg == aggB z)
    | none=>false)
def chkEq (P : Program) (t : Nat) (d : TypeDesc) : Bool :=
  !(P.eqGuardType P.depth t) && !(P.stoodInHeld t) && (match d with
    | .struct fs=>fs.toList.all fun f=>f.name != "_"
    | _=>true)
def QfJ (P : Program) (t : Nat) (ti : TI) : Bool :=
  match P.info? t,P.underlying t with
  | some i,some d=>Qc7 ti i && kdB ti.kd d && (!ti.eqp || chkEq P t d)
  | _,_=>false
theorem chkTI_ok {P : Program} {t : Nat} {ti : TI} (h : QfJ P t ti = true) : QfX P t ti := by
  unfold QfJ at h
  split at h
  · rename_i i d hi hd
    simp only [Bool.and_eq_true] at h
    obtain ⟨⟨h1,h2⟩,h3⟩:=h
    unfold Qc7 at h1
    simp only [Bool.and_eq_true,beq_iff_eq] at h1
    obtain ⟨⟨⟨s1,s2⟩,s4⟩,s3⟩:=h1
    split at s3
    · rename_i z hz
      simp only [Bool.and_eq_true,beq_iff_eq] at s3
      refine ⟨⟨i,z,hi,s1,s2,hz,Du s3.1,fun ha=>?_⟩,⟨d,hd,kdB_ok h2⟩,fun ha i' z' hi' hz'=>?_,fun hs=>⟨i,hi,by rw [hs] at s4; simpa using s4⟩,fun he=>?_⟩
      · have q := s3.2.symm; rw [ha] at q
        cases z <;> simp only [aggB,Bool.false_eq_true] at q
        exact ⟨_,rfl⟩
      · rw [hi] at hi'; injection hi' with hi'; subst hi'
        rw [hz] at hz'; injection hz' with hz'; subst hz'
        have q:=s3.2.symm; rw [ha] at q
        cases z <;> first | rfl | (simp only [aggB,Bool.true_eq_false] at q)
      · rw [he] at h3
        simp only [Bool.not_true,Bool.false_or] at h3
        unfold chkEq at h3
        simp only [Bool.and_eq_true,Bool.not_eq_true'] at h3
        refine ⟨h3.1.1,h3.1.2,fun fs hfs f hf=>?_⟩
        rw [hd] at hfs; injection hfs with hfs; subst hfs
        have:=h3.2
        simp only [List.all_eq_true,bne_iff_ne,ne_eq] at this
        exact this f (by simpa using hf)
    · cases s3
  · cases h
def WJ (P : Program) : Nat→List TI→Bool
  | _,[]=>true
  | k,ti :: r=>(!ti.kd.known || QfJ P k ti) && WJ P (k + 1) r
theorem Qc6 {P : Program} : ∀ (L : List TI) (k t : Nat),WJ P k L = true→(Wn ⟨.other,0,0,[],false⟩ L t).kd.known = true→QfX P (k + t) (Wn ⟨.other,0,0,[],false⟩ L t)
  | [],k,t,_,h=>by rw [YQ] at h; simp [Kd.known] at h
  | ti :: r, k, 0, h, hk => by
    simp only [WJ,Bool.and_eq_true,Bool.or_eq_true,Bool.not_eq_true'] at h
    rcases h.1 with q | q
    · have : ti.kd.known = true := hk
      rw [this] at q; cases q
    · exact chkTI_ok q
  | ti :: r, k, t + 1, h, hk => by
    simp only [WJ,Bool.and_eq_true] at h
    have:=Qc6 r (k + 1) t h.2 hk
    rwa [show k + 1 + t = k + (t + 1) from by omega] at this
def QdA (LL : List (List TI)) : Ty:=fun t=>Wn ⟨.other,0,0,[],false⟩ (Wn [] LL (Nat.div t 32)) (Nat.mod t 32)
def ChOk (P : Program) (k : Nat) (LL : List (List TI)) : Prop:=∀ (i : Nat) (c : List TI),LL[i]? = some c→WJ P (32 * (k + i)) c = true
theorem ch_nil {P : Program} {k : Nat} : ChOk P k []:=fun i c h=>by cases h
theorem ZJ {P : Program} {k : Nat} {c : List TI} {LL : List (List TI)} (h : WJ P (Nat.mul 32 k) c = true) (r : ChOk P (k + 1) LL) : ChOk P k (c :: LL):=fun i d hd=>by
  cases i with
  | zero=>injection hd with hd; subst hd; exact h
  | succ i =>
    have:=r i d hd
    rwa [show k + 1 + i = k + (i + 1) from by omega] at this
theorem tyOk_of2 {P : Program} {LL : List (List TI)} (h : ChOk P 0 LL) : YN P (QdA LL):=fun t ht=>by
  have e : QdA LL t = Wn ⟨.other,0,0,[],false⟩ (Wn [] LL (t / 32)) (t % 32):=rfl
  rw [e] at ht ⊢
  cases hc : LL[t / 32]? with
  | none =>
    exfalso
    have : Wn [] LL (t / 32) = []:=by rw [YQ,List.getD_eq_getElem?_getD,hc]; rfl
    rw [this,YQ] at ht
    simp [Kd.known] at ht
  | some c =>
    have hl : Wn [] LL (t / 32) = c:=by rw [YQ,List.getD_eq_getElem?_getD,hc]; rfl
    rw [hl] at ht ⊢
    have:=Qc6 c _ (t % 32) (h _ c hc) ht
    rwa [show 32 * (0 + t / 32) + t % 32 = t from by omega] at this
end Go.Am
namespace Go.Am
open Go
def fls : Fun:=fun _ _ _=>False
def tab : List (Nat × Fun)→Nat→Fun
  | [],_=>fls
  | p :: r,f=>Bool.rec (motive:=fun _=>Fun) (tab r f) p.2 (Nat.beq f p.1)
def Zw : Code→Ks→List AV→List Dfr→H→Prop:=fun _ _ _ _ _=>False
def gam (J : Qm) (l : List (Nat × Fun)) : Gam:=⟨J,tab l,fun _=>fls,fun _=>fls,Zw⟩
def YB (J : Qm) (l li : List (Nat × Fun)) (cd : Code→Ks→List AV→List Dfr→H→Prop) : Gam:=⟨J,tab l,tab li,fun _=>fls,cd⟩
def gamD (J : Qm) (l li ld : List (Nat × Fun)) (cd : Code→Ks→List AV→List Dfr→H→Prop) : Gam:=⟨J,tab l,tab li,tab ld,cd⟩
def UZ (ok : Nat→Fun→Prop) (l : List (Nat × Fun)) : Prop:=∀ f,ok f (tab l f)
theorem Qc {ok : Nat→Fun→Prop} (h : ∀ f,ok f fls) : UZ ok []:=h
theorem Qa {ok : Nat→Fun→Prop} {f : Nat} {g : Fun} {l : List (Nat × Fun)} (h : ok f g) (hl : UZ ok l) : UZ ok ((f,g) :: l):=fun f'=>by
  show ok f' (Bool.rec (motive:=fun _=>Fun) (tab l f') g (Nat.beq f' f))
  cases e : Nat.beq f' f with
  | true=>rw [Nat.beq_eq] at e; subst e; exact h
  | false=>exact hl f'
theorem Qd {P : Program} (f : Nat) : Qe P f fls:=fun _ _ _ e=>e.elim
theorem Wq {P : Program} (f : Nat) : ItOk P f fls:=fun _ _ _ e=>e.elim
theorem N6 {P : Program} (f : Nat) : Uw P f fls:=fun _ _ _ e=>e.elim
theorem Yo {P : Program} : Gl P Zw:=fun _ _ _ _ _ e=>e.elim
theorem Qg {P : Program} {J : Qm} {l : List (Nat × Fun)} (h : UZ (Qe P) l) : YM P (gam J l):=⟨h,Wq,N6,Yo⟩
theorem Y7 {P : Program} {J : Qm} {l li : List (Nat × Fun)} {cd : Code→Ks→List AV→List Dfr→H→Prop} (h : UZ (Qe P) l) (hi : UZ (ItOk P) li) (hc : Gl P cd) : YM P (YB J l li cd):=⟨h,hi,N6,hc⟩
theorem gamD_ok {P : Program} {J : Qm} {l li ld : List (Nat × Fun)} {cd : Code→Ks→List AV→List Dfr→H→Prop} (h : UZ (Qe P) l) (hi : UZ (ItOk P) li) (hd : UZ (Uw P) ld) (hc : Gl P cd) : YM P (gamD J l li ld cd):=⟨h,hi,hd,hc⟩
theorem Qe.imp {P : Program} {f : Nat} {g g' : Fun} (h : Qe P f g) (hi : ∀ as hh k,g' as hh k→g as hh k) : Qe P f g':=fun as hh Q e μ w args hR ha=>h as hh Q (hi _ _ _ e) μ w args hR ha
theorem ItOk.imp {P : Program} {f : Nat} {g g' : Fun} (h : ItOk P f g) (hi : ∀ as hh k,g' as hh k→g as hh k) : ItOk P f g':=fun as hh Q e μ w args hR ha=>h as hh Q (hi _ _ _ e) μ w args hR ha
theorem Uw.imp {P : Program} {f : Nat} {g g' : Fun} (h : Uw P f g) (hi : ∀ as hh k,g' as hh k→g as hh k) : Uw P f g':=fun as hh Q e μ w args hR ha=>h as hh Q (hi _ _ _ e) μ w args hR ha
def QeW : Fun:=fun as h k=>match as with
  | [x]=>k x h
  | _=>False
theorem noEscape_ok {P : Program} {f : FuncId} {fn : Func} (hf : P.funcs[f]? = some fn) (hn : (fn.name == "runtime.NumGoroutine") = false) (hb : fn.body.isNone = true) (h1 : Extern.findNext fn = none) (h2 : Extern.find fn = some Extern.AbiNoEscape.same) : Qe P f QeW:=by
  intro as h Q e μ w args hR ha
  left
  unfold QeW at e
  split at e
  · rename_i x
    obtain ⟨v,_,hv,hx,hn'⟩:=AV.relL_cons.1 ha
    rw [AV.relL_nil] at hn'; subst hn'
    have : args = #[v]:=Array.toList_inj.1 hv
    subst this
    refine ⟨v,w,μ,x,h,?_,hx,Post.refl hR,e⟩
    have h3 : (Extern.AbiNoEscape.same #[v]).run P w = .ok v w:=rfl
    rw [beq_eq_false_iff_ne] at hn
    rw [Option.isNone_iff_eq_none] at hb
    simp [callFunc,hf,hn,hb,h1,h2,h3]
  · exact e.elim
def De : Fun:=fun as h k=>match as with
  | [.iface t (.map id)]=>asMap (h.get id) (fun es clock=>Qs (.amap es clock) h fun n h'=>k (.iface t (.map n)) h') fun es=>Qs (.smap es) h fun n h'=>k (.iface t (.map n)) h'
  | _=>False
where
  asMap (b : Blk) (k : List (AV × AV × Nat)→Nat→Prop) (k2 : List (AV × AV)→Prop) : Prop :=
    match b with
    | .amap es clock=>k es clock
    | .smap es=>k2 es
    | _=>False
theorem cloneF_ok {P : Program} {f : FuncId} {fn : Func} (hf : P.funcs[f]? = some fn) (hn : (fn.name == "runtime.NumGoroutine") = false) (hb : fn.body.isNone = true) (h1 : Extern.findNext fn = none) (h2 : Extern.find fn = some Extern.MapsClone.clone) : Qe P f De:=by
  intro as h Q e μ w args hR ha
  left
  unfold De at e
  split at e
  · rename_i t id
    unfold De.asMap at e
    split at e
    · rename_i es clock hg
      rw [QX] at e
      obtain ⟨n,h',hp,e⟩:=e
      obtain ⟨v,_,hv,hx,hn'⟩:=AV.relL_cons.1 ha
      rw [AV.relL_nil] at hn'; subst hn'
      have : args = #[v]:=Array.toList_inj.1 hv
      subst this
      obtain ⟨v',w',μ',q1,q2,q3⟩:=Qae (P:=P) hR (a:=.iface t (.map id)) (r:=.iface t (.map n)) (h':=h') (by simp only [Dp,hg,hp]) hx
      refine ⟨v',w',μ',_,h',?_,q2,q3,e⟩
      rw [beq_eq_false_iff_ne] at hn
      rw [Option.isNone_iff_eq_none] at hb
      simp [callFunc,hf,hn,hb,h1,h2,q1]
    · rename_i es hg
      rw [QX] at e
      obtain ⟨n,h',hp,e⟩:=e
      obtain ⟨v,_,hv,hx,hn'⟩:=AV.relL_cons.1 ha
      rw [AV.relL_nil] at hn'; subst hn'
      have : args = #[v]:=Array.toList_inj.1 hv
      subst this
      obtain ⟨v',w',μ',q1,q2,q3⟩:=Qae (P:=P) hR (a:=.iface t (.map id)) (r:=.iface t (.map n)) (h':=h') (by simp only [Dp,hg,hp]) hx
      refine ⟨v',w',μ',_,h',?_,q2,q3,e⟩
      rw [beq_eq_false_iff_ne] at hn
      rw [Option.isNone_iff_eq_none] at hb
      simp [callFunc,hf,hn,hb,h1,h2,q1]
    · exact e.elim
  · exact e.elim
end Go.Am
namespace Go.Am
open Go Go.ChangeShapes Go.RowKit
theorem law_calls {P : Program} {f : FuncId} {g : Fun} (hok : Qe P f g) (henter : ∀ args w,(callFunc f args).run P w = .ok (.enter f args) w) {as : List AV} {h : H} {Q : AV→H→Prop} (hg : g as h Q)
    {μ : Mu} {W : World} {args : Array Value} (hR : Rel μ h W) (ha : AV.relL μ as args.toList) : Xt P μ h W f args Q:=by
  rcases hok as h Q hg μ W args hR ha with ⟨v,w',μ',r,h',q1,_⟩ | ⟨_,q⟩
  · rw [henter] at q1; cases q1
  · exact q
def H0 : H:=⟨.lf,0,0⟩
theorem rel0 (W : World) : Rel YF H0 W :=
  ⟨⟨Nat.le_refl _⟩,fun _ _ _ h=>(by cases h),fun _ _ _ _ _ h=>(by cases h),fun _ _ _ h=>(by cases h),fun _ _ _ _ _ _ h=>(by cases h),fun _ _ _ h=>absurd h (Nat.not_lt_zero _)⟩
theorem below_of_post {μ μ' : Mu} {h h' : H} {W W' : World} (hp : Post μ h W μ' h' W') (hb : ∀ id b d,h.base ≤ id→μ id = some (b,d)→(h.get id).live = false) : Below W.heap.size W W' :=
  ⟨hp.frame.os,hp.frame.tape,hp.frame.output,hp.frame.size,fun k hk=>hp.frame.block k hk fun id d h1 h2=>hb id k d h1 h2⟩
def isT (r : AV) (_ : H) : Prop:=r = .bool true
theorem law {P : Program} {f : FuncId} {g : Fun} (hok : Qe P f g) (henter : ∀ args w,(callFunc f args).run P w = .ok (.enter f args) w) {as : List AV} {h : H} (hg : g as h isT) {μ : Mu} (hb : ∀ id b d,h.base ≤ id→μ id = some (b,d)→(h.get id).live = false)
    {W : World} {args : Array Value} (hR : Rel μ h W) (ha : AV.relL μ as args.toList) : Calls P f args W fun e W'=>e = .returned (.bool true) ∧ Below W.heap.size W W' :=
  Calls.mono (law_calls hok henter hg hR ha) fun e W' he=>by
    obtain ⟨v,μ',r,h',rfl,hv,hp,hr⟩:=he
    have hr : r = .bool true:=hr
    subst hr
    simp only [AV.rel] at hv; subst hv
    exact ⟨rfl,below_of_post hp hb⟩
section
variable {H : Type} {enc : TypeId × Value→H} {P : Program}
theorem UR (hl : laidOutB P = true) {W W' : World} (hb : Below W.heap.size W W') : ∀ {ts : List TypeId} {vs : List Value} {ds : List (DataW H)} {ps : List MemPlace},(∀ t ∈ ts,P.readableRec t = true ∧ t < P.types.size) →
    DataW.TrodAll enc P W 0 (fun _=>true) true ts vs ds ps→(∀ x ∈ ps,x.block < W.heap.size)→DataW.TrodAll enc P W' 0 (fun b=>decide (b < W.heap.size)) true ts vs ds ps
  | [],_,_,_,_,h,_=>by obtain ⟨rfl,rfl,rfl⟩:=trodAll_nil h; rfl
  | t :: ts, _, _, _, ht, h, hlt => by
    obtain ⟨v,vs1,d,ds1,a,b,rfl,rfl,rfl,h1,h2⟩:=trodAll_cons h
    exact ⟨a,b,Below.trod hl (ht t (by simp)).1 (ht t (by simp)).2 h1 hb (fun x hx=>hlt x (by simp [hx])),UR hl hb (fun t h=>ht t (by simp [h])) h2 (fun x hx=>hlt x (by simp [hx])),rfl⟩
theorem post_of_below {f : Func} {s : ChangeSpec} {W W' : World} {args : Array Value} {v : Value} {ds gs : List (DataW H)} {before : List MemPlace} {fresh handsOn : Bool} (hv : s.vars = []) (hl : laidOutB P = true) (hpar : ∀ t ∈ f.params.toList,P.readableRec t = true ∧ t < P.types.size)
    (hW : DataW.Whole enc P f.params.toList s.vars false W args.toList ds gs before) (hb : Below W.heap.size W W') (ha : (s.fn H (ds ++ gs)).args = ds) (hvs : (s.fn H (ds ++ gs)).vars = [])
    (hres : ∀ (b : Nat) (sp : Nat→Bool) (hd : Bool),DataW.TrodAll enc P W' b sp hd f.resultTypes.toList (v.resultList f.resultTypes.size) (s.fn H (ds ++ gs)).results []) : s.post enc P f false fresh handsOn false W args v W':=by
  have hW':=hW
  have hlt:=hW.lt
  obtain ⟨p,q,hA,hV,rfl,hz,hn⟩:=hW
  rw [hv] at hV
  obtain ⟨rfl,rfl⟩:=trodVars_none hV
  refine ⟨ds,[],p ++ [],[],p,[],hW',hres _ _ _,?_,?_,hb.frame _,fun h=>by cases h⟩
  · rw [ha]; exact UR hl hb hpar hA (fun x hx=>hlt x (by simp [hx]))
  · rw [hv,hvs]; rfl
theorem bool_res {W' : World} {f : Func} {t : TypeId} (hr : f.resultTypes = #[t]) (ht : P.underlying t = some .bool) (b : Bool) (k : Nat) (sp : Nat→Bool) (hd : Bool) :
    DataW.TrodAll enc P W' k sp hd f.resultTypes.toList ((Value.bool b).resultList f.resultTypes.size) [.lit (.bool b)] []:=by
  rw [hr]
  exact trodAll_mk1 ⟨1,by simp [DataW.trod,Value.cells,ht]⟩
end
end Go.Am
namespace Go.Am
open Go
def arg (as : List AV) (k : AV→List AV→Prop) : Prop:=List.rec (motive:=fun _=>Prop) False (fun a t _=>k a t) as
def QB (as : List AV) (p : Prop) : Prop:=List.rec (motive:=fun _=>Prop) p (fun _ _ _=>False) as
theorem Qp {as : List AV} {k : AV→List AV→Prop} (e : arg as k) : ∃ a t,as = a :: t ∧ k a t:=by
  cases as with
  | nil=>exact e.elim
  | cons a t=>exact ⟨a,t,rfl,e⟩
theorem Qt {as : List AV} {p : Prop} (e : QB as p) : as = [] ∧ p:=by
  cases as with
  | nil=>exact ⟨rfl,e⟩
  | cons a t=>exact e.elim
def Q6 (v : AV) (k : Nat→Prop) : Prop:=JJ v (k 0) fun _ _ len _ _ _=>k len
def delK (o : Option (Option (Nat × Blk))) (h : H) (k : H→Prop) : Prop:=op' o fun p=>match p with
  | some q=>ZL q.1 q.2 h k
  | none=>k h
end Go.Am
namespace Go.Am
open Go
theorem Z3.resort {es es2 : List (AV × AV)} {es' : List (AV × AV × Nat)} {clock : Nat} (s : Z3 es es' clock) (p : es.Perm es2) : Z3 es2 es' clock :=
  ⟨s.perm.trans p,(p.map (·.1)).nodup_iff.1 s.keys,s.stamps,s.low⟩
structure Deader (n : Nat) (h1 h2 : H) : Prop where
  next : h2.next = h1.next
  base : h2.base = h1.base
  low : ∀ id,id < n→h2.get id = h1.get id
  high : ∀ id,n ≤ id→h2.get id = h1.get id ∨ h2.get id = .dead ∨ ∃ es es2,h1.get id = .smap es ∧ h2.get id = .smap es2 ∧ es.Perm es2
theorem Deader.refl (n : Nat) (h : H) : Deader n h h:=⟨rfl,rfl,fun _ _=>rfl,fun _ _=>.inl rfl⟩
theorem Deader.any {n : Nat} {h1 h2 : H} (d : Deader n h1 h2) (id : Nat) : h2.get id = h1.get id ∨ h2.get id = .dead ∨ ∃ es es2,h1.get id = .smap es ∧ h2.get id = .smap es2 ∧ es.Perm es2:=by
  rcases Nat.lt_or_ge id n with h | h
  · exact .inl (d.low id h)
  · exact d.high id h
theorem Deader.live {n : Nat} {h1 h2 : H} (d : Deader n h1 h2) {id : Nat} (h : (h2.get id).live = true) : (h1.get id).live = true:=by
  rcases d.any id with e | e | ⟨es,es2,e,_⟩
  · rw [← e]; exact h
  · rw [e] at h; cases h
  · rw [e]; rfl
theorem Post.deader {μ μ' : Mu} {h h1 h2 : H} {w w' : World} (hR : Rel μ h w) (p : Post μ h w μ' h1 w') (d : Deader h.next h1 h2) : Post μ h w μ' h2 w':=by
  refine ⟨p.ext,⟨?_,fun id b e hm=>?_,fun i j b e f hi hj li lj hbj=>p.rel.inj i j b e f hi hj (d.live li) (d.live lj) (by have:=d.base; omega),fun id b e hm=>?_,p.rel.cnt,p.rel.glb.step d.base (fun id hi=>d.low id (by have:=hR.wf.low; have:=p.grows.base; omega)) fun _ _=>rfl⟩,p.frame,⟨?_,?_,fun id hi hm=>?_,fun id hi=>?_,fun id hi hl=>p.grows.dead id hi (d.live hl)⟩,fun id b e hi hm hb hl=>p.fresh id b e hi hm hb (d.live hl)⟩
  · exact ⟨by rw [d.base,d.next]; exact p.rel.wf.low⟩
  · rw [d.next]; exact p.rel.dom id b e hm
  · rcases d.any id with q | q | ⟨es, es2, q1, q2, q3⟩
    · rw [q,d.base]; exact p.rel.blk id b e hm
    · rw [q]; trivial
    · have hb := p.rel.blk id b e hm
      rw [q1] at hb
      obtain ⟨h0,es',clock,ces,r1,r2,r3⟩:=hb
      rw [q2]; exact ⟨h0,es',clock,ces,r1,r2,r3.resort q3⟩
  · rw [d.next]; exact p.grows.next
  · rw [d.base]; exact p.grows.base
  · rw [d.low id hi]; exact p.grows.keep id hi hm
  · rw [d.low id (Nat.lt_of_lt_of_le hi hR.wf.low)]; exact p.grows.low id hi
theorem Qe.deader {P : Program} {f : FuncId} {g g' : Fun} (hg : Qe P f g) (hi : ∀ as h k,h.Wf→g' as h k→g as h fun r h1=>∃ h2,Deader h.next h1 h2 ∧ k r h2) : Qe P f g':=by
  intro as h Q e μ w args hR ha
  rcases hg as h _ (hi as h Q hR.wf e) μ w args hR ha with ⟨v,w',μ',r,h1,q1,q2,q3,h2,q4,q5⟩ | ⟨q1,q2⟩
  · exact .inl ⟨v,w',μ',r,h2,q1,q2,q3.deader hR q4,q5⟩
  · exact .inr ⟨q1,Calls.mono q2 fun e w' ⟨v,μ',r,h1,p1,p2,p3,h2,p4,p5⟩=>⟨v,μ',r,h2,p1,p2,p3.deader hR p4,p5⟩⟩
theorem Qe.up {P : Program} {f : FuncId} {g g' : Fun} (hg : Qe P f g) (hi : ∀ as h k,g' as h k→∃ K,g as h K ∧ ∀ r h',K r h'→k r h') : Qe P f g':=by
  intro as h Q e μ w args hR ha
  obtain ⟨K,e,hK⟩:=hi as h Q e
  rcases hg as h K e μ w args hR ha with ⟨v,w',μ',r,h1,q1,q2,q3,q4⟩ | ⟨q1,q2⟩
  · exact .inl ⟨v,w',μ',r,h1,q1,q2,q3,hK _ _ q4⟩
  · exact .inr ⟨q1,Calls.mono q2 fun e w' ⟨v,μ',r,h1,p1,p2,p3,p4⟩=>⟨v,μ',r,h1,p1,p2,p3,hK _ _ p4⟩⟩
end Go.Am
namespace Go.Am
open Go
theorem Q1 {h h' : H} {i : Nat} {b : Blk} (e : h.put i b = some h') : i < h.next ∧ h.base ≤ i ∧ h'.next = h.next ∧ h'.base = h.base ∧ ∀ id,h'.get id = if id = i then b else h.get id:=by
  rw [H.put_eq] at e
  split at e
  · rename_i hlt
    injection e with e; subst e
    refine ⟨hlt.1,hlt.2,rfl,rfl,fun id=>?_⟩
    rw [H.get_eq,H.get_eq]
    simp only [Tr.get_set]
    split <;> split <;> first | rfl | omega | simp_all
  · cases e
theorem ZB {h : H} {i : Nat} (b : Blk) (h1 : i < h.next) (h2 : h.base ≤ i) : ∃ h',h.put i b = some h':=⟨_,by rw [H.put_eq,if_pos ⟨h1,h2⟩]⟩
theorem Y6 (h : H) (b : Blk) : ∃ h',h.push b = some (h.next,h'):=by unfold H.push; exact ⟨_,rfl⟩
structure Iter (m r : Nat) (es0 : List (AV × AV)) (es : List (AV × AV × Nat)) (clock : Nat) (seen : List Nat) (h : H) : Prop where
  mp : h.get m = .amap es clock
  it : h.get r = .miter (some m) clock seen clock
  shown : Z3 es0 es clock
theorem Iter.ne {m r : Nat} {es0 : List (AV × AV)} {es : List (AV × AV × Nat)} {clock : Nat} {seen : List Nat} {h : H} (i : Iter m r es0 es clock seen h) : m ≠ r:=by
  intro e; subst e; have:=i.it; rw [i.mp] at this; cases this
theorem Iter.nextA {m r : Nat} {es0 : List (AV × AV)} {es : List (AV × AV × Nat)} {clock : Nat} {seen : List Nat} {h : H} (i : Iter m r es0 es clock seen h) {k : AV → H → Prop}
    (hgo : ∀ e ∈ es,e.2.2 ∉ seen→∃ h',h.put r (.miter (some m) clock (seen ++ [e.2.2]) clock) = some h' ∧ k (.tuple [.bool true,e.1,e.2.1]) h')
    (hend : (∀ e ∈ es,e.2.2 ∈ seen)→∃ h1 h2 h3,h.put m (.smap es0) = some h1 ∧ h1.put r .dead = some h2 ∧ Alike h2 h3 ∧ k (.tuple [.bool false]) h3) : YV (.ptr r 0) h k:=by
  unfold YV
  simp only [i.it,i.mp]
  have hst : (!seen.isEmpty && !es.isEmpty && es.all (fun e=>Nat.ble clock e.2.2)) = false:=by
    cases es with
    | nil=>simp
    | cons e l =>
      have:=i.shown.low e List.mem_cons_self
      have hb : Nat.ble clock e.2.2 = false:=by
        cases hc : Nat.ble clock e.2.2 with
        | false=>rfl
        | true=>rw [Qv] at hc; omega
      simp [hb]
  rw [hst]
  simp only
  intro c hc
  unfold Jf at hc
  have hold : ∀ e ∈ es,Nat.blt e.2.2 clock = true:=fun e he=>by rw [QP]; exact i.shown.low e he
  have e1 : ((es.filter fun e=>!Gs seen e.2.2).filter fun e=>Nat.blt e.2.2 clock) = es.filter fun e=>!Gs seen e.2.2:=by
    rw [List.filter_eq_self]; intro e he; exact hold e (List.mem_filter.1 he).1
  have e2 : ((es.filter fun e=>!Gs seen e.2.2).filter fun e=>!Nat.blt e.2.2 clock) = []:=by
    rw [List.filter_eq_nil_iff]; intro e he; simp [hold e (List.mem_filter.1 he).1]
  simp only [e1,e2,List.append_nil] at hc
  rcases List.mem_append.1 hc with hc | hc
  · split at hc
    · rename_i hnil
      simp at hc; subst hc
      refine .inr ?_
      obtain ⟨h1,h2,h3,p1,p2,p3,p4⟩:=hend (fun e he=>by
        have:=(List.filter_eq_nil_iff.1 hnil) e he
        simpa [Xa] using this)
      exact ⟨es0,h1,h2,h3,i.shown,p1,p2,p3,p4⟩
    · cases hc
  · obtain ⟨e, he, rfl⟩ := List.mem_map.1 hc
    obtain ⟨he,hs⟩:=List.mem_filter.1 he
    obtain ⟨x,v,n⟩:=e
    obtain ⟨h',p1,p2⟩:=hgo (x,v,n) he (by simpa [Xa] using hs)
    simp only [UE,p1]
    exact p2
theorem Iter.next {m r : Nat} {es0 : List (AV × AV)} {es : List (AV × AV × Nat)} {clock : Nat} {seen : List Nat} {h : H} (i : Iter m r es0 es clock seen h) {k : AV→H→Prop}
    (hgo : ∀ e ∈ es,e.2.2 ∉ seen→∃ h',h.put r (.miter (some m) clock (seen ++ [e.2.2]) clock) = some h' ∧ k (.tuple [.bool true,e.1,e.2.1]) h')
    (hend : (∀ e ∈ es,e.2.2 ∈ seen)→∃ h1 h2,h.put m (.smap es0) = some h1 ∧ h1.put r .dead = some h2 ∧ k (.tuple [.bool false]) h2) : YV (.ptr r 0) h k :=
  i.nextA hgo fun ha=>let ⟨h1,h2,p1,p2,p3⟩:=hend ha; ⟨h1,h2,h2,p1,p2,.refl _,p3⟩
theorem find_stamp {es : List (AV × AV × Nat)} (hs : (es.map (·.2.2)).Nodup) {e : AV × AV × Nat} (he : e ∈ es) : es.find? (fun x => Nat.beq x.2.2 e.2.2) = some e := by
  induction es with
  | nil=>cases he
  | cons a l ih =>
    rw [List.map_cons,List.nodup_cons] at hs
    rw [List.find?_cons]
    rcases List.mem_cons.1 he with rfl | he
    · have : Nat.beq e.2.2 e.2.2 = true := by rw [Nat.beq_eq]
      rw [this]
    · have : Nat.beq a.2.2 e.2.2 = false := by
        cases hb : Nat.beq a.2.2 e.2.2 with
        | false=>rfl
        | true=>rw [Nat.beq_eq] at hb; exact absurd (List.mem_map.2 ⟨e,he,hb.symm⟩) hs.1
      rw [this]; exact ih hs.2 he
theorem Iter.entry {m r : Nat} {es0 : List (AV × AV)} {es : List (AV × AV × Nat)} {clock : Nat} {seen : List Nat} {e : AV × AV × Nat} {h : H} (i : Iter m r es0 es clock (seen ++ [e.2.2]) h) (he : e ∈ es) : ZV (.ptr r 0) h = some (.tuple [e.1,e.2.1]):=by
  unfold ZV
  have : Nat.beq clock clock = true:=by rw [Nat.beq_eq]
  simp only [i.it,i.mp,this,List.getLast?_append,List.getLast?_singleton,Option.some_or,find_stamp i.shown.stamps he]
theorem Iter.step {m r : Nat} {es0 : List (AV × AV)} {es : List (AV × AV × Nat)} {clock : Nat} {seen seen' : List Nat} {h h' : H} (i : Iter m r es0 es clock seen h) (hp : h.put r (.miter (some m) clock seen' clock) = some h') : Iter m r es0 es clock seen' h':=by
  obtain ⟨_,_,_,_,g⟩:=Q1 hp
  exact ⟨by rw [g,if_neg i.ne]; exact i.mp,by rw [g,if_pos rfl],i.shown⟩
def rest (seen : List Nat) (es : List (AV × AV × Nat)) : List (AV × AV × Nat):=es.filter fun e=>!seen.contains e.2.2
theorem J2 {es : List (AV × AV × Nat)} (hs : (es.map (·.2.2)).Nodup) {e : AV × AV × Nat} (he : e ∈ es) {seen : List Nat} (hn : e.2.2 ∉ seen) : (rest seen es).Perm (e :: rest (seen ++ [e.2.2]) es) := by
  induction es with
  | nil=>cases he
  | cons a l ih =>
    rw [List.map_cons,List.nodup_cons] at hs
    rcases List.mem_cons.1 he with rfl | he
    · have h1 : rest (seen ++ [e.2.2]) l = rest seen l := by
        unfold rest
        apply List.filter_congr
        intro x hx
        have : x.2.2 ≠ e.2.2:=fun q=>hs.1 (List.mem_map.2 ⟨x,hx,q⟩)
        simp [this]
      have h2 : rest seen (e :: l) = e :: rest seen l:=by unfold rest; rw [List.filter_cons]; simp [hn]
      have h3 : rest (seen ++ [e.2.2]) (e :: l) = rest (seen ++ [e.2.2]) l:=by unfold rest; rw [List.filter_cons]; simp
      rw [h2,h3,h1]
    · have hne : a.2.2 ≠ e.2.2 := fun q => hs.1 (List.mem_map.2 ⟨e, he, q.symm⟩)
      have ih:=ih hs.2 he
      unfold rest at ih ⊢
      rw [List.filter_cons,List.filter_cons]
      by_cases ha : a.2.2 ∈ seen
      · simp only [List.contains_eq_mem, ha, decide_true, Bool.not_true, List.mem_append, true_or]
        simpa [List.contains_eq_mem] using ih
      · have hb : a.2.2 ∉ seen ++ [e.2.2] := by simp [ha, hne]
        simp only [List.contains_eq_mem,ha,hb,decide_false,Bool.not_false,if_true]
        refine .trans (.cons a ?_) (.swap _ _ _)
        simpa [List.contains_eq_mem] using ih
theorem XD {es : List (AV × AV × Nat)} {seen : List Nat} (h : ∀ e ∈ es,e.2.2 ∈ seen) : rest seen es = []:=by
  unfold rest; rw [List.filter_eq_nil_iff]; intro e he; simp [h e he]
theorem Vg (es : List (AV × AV × Nat)) : rest [] es = es:=by
  unfold rest; rw [List.filter_eq_self]; intro e he; simp
end Go.Am
namespace Go.Am
open Go
theorem Jh (n : Int) : ∃ q : Int,Qu .i64 n = n - 18446744073709551616 * q ∧ -9223372036854775808 ≤ Qu .i64 n ∧ Qu .i64 n < 9223372036854775808:=by
  rw [ZO]
  simp only [IntKind.wrap,IntKind.bits,IntKind.signed,Bool.true_and]
  split
  · rename_i hc; simp at hc; exact ⟨n / 18446744073709551616 + 1,by omega,by omega,by omega⟩
  · rename_i hc; simp at hc; exact ⟨n / 18446744073709551616,by omega,by omega,by omega⟩
theorem wrap_sub2 (n a b : Int) : Qu .i64 (Int.sub (Qu .i64 (Int.sub n a)) b) = Qu .i64 (Int.sub (Qu .i64 (Int.sub n b)) a):=by
  show Qu .i64 (Qu .i64 (n - a) - b) = Qu .i64 (Qu .i64 (n - b) - a)
  obtain ⟨q1,h1,_⟩:=Jh (n - a)
  obtain ⟨q2,h2,_⟩:=Jh (n - b)
  obtain ⟨q3,h3,h4,h5⟩:=Jh (Qu .i64 (n - a) - b)
  obtain ⟨q4,h6,h7,h8⟩:=Jh (Qu .i64 (n - b) - a)
  omega
def Jl (n : Int) (l : List Int) : Int:=l.foldl (fun n x=>Qu .i64 (Int.sub n x)) n
theorem Jk {l l' : List Int} (h : l.Perm l') (n : Int) : Jl n l = Jl n l' :=
  h.foldl_eq' (fun x _ y _ z=>wrap_sub2 z x y) n
end Go.Am
namespace Go.Am
open Go Go.ChangeShapes Go.WideShapes Go.RowKit
structure Holds (p : Prop) : Prop where
  out : p
theorem pars_ok {P : Program} {ts : List TypeId} (h : (ts.all fun t=>P.readableRec t && Nat.blt t P.types.size) = true) : ∀ t ∈ ts,P.readableRec t = true ∧ t < P.types.size:=fun t ht=>by
  have:=List.all_eq_true.1 h t ht
  simp only [Bool.and_eq_true,QP] at this
  exact this
end Go.Am
namespace Go.Am
open Go
def WU : Code→List (Code × Code)
  | .seq a b=>WU a ++ WU b
  | .cond _ a b=>WU a ++ WU b
  | .block _ b=>WU b
  | .loop b=>WU b
  | .scope b=>WU b
  | .rangeFunc _ _ a b=>[(a,b)]
  | _=>[]
def Wx (f : Func) (i : Nat) : Code × Code :=
  match f.body with
  | some c=>(WU c).getD i (.skip,.skip)
  | none=>(.skip,.skip)
def rfK (G : Gam) (v : AV) (ps : List Nat) (c : Code × Code) (env : List AV) (h : H) (k : Nat→Nat→H→Prop) : Prop :=
  match v with
  | .func (.func f) first captured=>Qs (.defd true) h fun id0 h=>Qs (.loop .ready none ps c.1 c.2 env) h fun id1 h=>G.it f (first ++ (.yield id1 :: captured)) h fun _ h=>k id0 id1 h
  | _=>False
def endR (id0 id1 : Nat) (norm ret : List Dfr→H→Prop) (ex : Nat→List Dfr→H→Prop) (ds : List Dfr) (h : H) : Prop :=
  match h.get id1 with
  | .loop .busy _ _ _ _ _=>False
  | .loop _ pend _ _ _ _ => Z7 id1 .exhausted pend h fun h' => match pend with
    | none=>norm (.coll id0 :: ds) h'
    | some .ret=>ret (.coll id0 :: ds) h'
    | some (.exit i)=>ex i (.coll id0 :: ds) h'
    | _=>False
  | _=>False
def exB (c : Bool) (p q : List Dfr→H→Prop) : List Dfr→H→Prop :=
  match c with
  | true=>p
  | false=>q
end Go.Am
namespace Go.Am
open Go
theorem Y8 {n : Nat} {k k' : Nat→Prop} (hk : ∀ x,k x→k' x) : fN n k→fN n k':=by rw [Zk,Zk]; exact hk _
theorem fI_mono {n : Int} {k k' : Int→Prop} (hk : ∀ x,k x→k' x) : fI n k→fI n k':=by rw [Qn,Qn]; exact hk _
theorem fB_mono {n : Bool} {k k' : Bool→Prop} (hk : ∀ x,k x→k' x) : fB n k→fB n k':=by rw [Qk,Qk]; exact hk _
theorem Qc1 {n : Str} {k k' : Str→Prop} (hk : ∀ x,k x→k' x) : fS n k→fS n k':=by rw [Vp,Vp]; exact hk _
theorem VP {c : Bool} {p p' q q' : Prop} (h1 : p→p') (h2 : q→q') : br c p q→br c p' q':=by
  rw [Zt,Zt]; rintro (⟨a,b⟩ | ⟨a,b⟩); exact .inl ⟨a,h1 b⟩; exact .inr ⟨a,h2 b⟩
theorem ZE {c : Bool} {p p' : Prop} (h1 : p→p') : ck c p→ck c p':=by rw [Qz,Qz]; exact fun h=>⟨h.1,h1 h.2⟩
theorem WX {α : Type} {o : Option α} {k k' : α→Prop} (hk : ∀ x,k x→k' x) : op' o k→op' o k':=by
  rw [QF,QF]; rintro ⟨a,b,c⟩; exact ⟨a,b,hk _ c⟩
theorem Um {kk : IntKind} {v : AV} {k k' : Int→Prop} (hk : ∀ x,k x→k' x) : asI kk v k→asI kk v k':=by
  rw [QD,QD]; rintro ⟨a,b,c⟩; exact ⟨a,b,hk _ c⟩
theorem YU {v : AV} {k k' : Bool→Prop} (hk : ∀ x,k x→k' x) : asB v k→asB v k':=by
  rw [Zr,Zr]; rintro ⟨a,b,c⟩; exact ⟨a,b,hk _ c⟩
theorem Ul {v : AV} {k k' : Str→Prop} (hk : ∀ x,k x→k' x) : asS v k→asS v k':=by
  rw [QI,QI]; rintro ⟨a,b,c⟩; exact ⟨a,b,hk _ c⟩
theorem asAgg_mono {v : AV} {k k' : List AV→Prop} (hk : ∀ x,k x→k' x) : Go.Am.asAgg v k→Go.Am.asAgg v k':=by
  rw [asAgg_iff,asAgg_iff]; rintro ⟨a,b,c⟩; exact ⟨a,b,hk _ c⟩
theorem asTup_mono {v : AV} {k k' : List AV→Prop} (hk : ∀ x,k x→k' x) : Go.Am.asTup v k→Go.Am.asTup v k':=by
  rw [asTup_iff,asTup_iff]; rintro ⟨a,b,c⟩; exact ⟨a,b,hk _ c⟩
theorem WL {v : AV} {k k' : Nat→Prop} (hk : ∀ x,k x→k' x) : Vr v k→Vr v k':=by
  rw [ZT,ZT]; rintro ⟨a,b,c,d⟩; exact ⟨a,b,c,hk _ d⟩
theorem Gc {v : AV} {k k' : Nat→Nat→Prop} (hk : ∀ x y,k x y→k' x y) : asPtr v k→asPtr v k':=by
  rw [asPtr_iff,asPtr_iff]; rintro ⟨a,b,c,d⟩; exact ⟨a,b,c,hk _ _ d⟩
theorem Kq {v : AV} {k k' k2 k2' : Nat→Nat→Prop} (hk : ∀ x y,k x y→k' x y) (hk2 : ∀ x y,k2 x y→k2' x y) : QaY v k k2→QaY v k' k2':=by
  rw [WK,WK]
  rintro (⟨a,b,c,d⟩ | ⟨a,b,c,d⟩)
  · exact .inl ⟨a,b,c,hk _ _ d⟩
  · exact .inr ⟨a,b,c,hk2 _ _ d⟩
theorem Kp {v : AV} {n n' : Prop} {k k' : Nat→Nat→Nat→Nat→Nat→Bool→Prop} (hn : n→n') (hk : ∀ a b c d e f,k a b c d e f→k' a b c d e f) : JJ v n k→JJ v n' k':=by
  rw [ZS,ZS]
  rintro (⟨a,b⟩ | ⟨a,b,c,d,e,f,g,q⟩)
  · exact .inl ⟨a,hn b⟩
  · exact .inr ⟨a,b,c,d,e,f,g,hk _ _ _ _ _ _ q⟩
theorem Wj {b : Blk} {k1 k1' : Bool→Nat→List AV→Prop} {k2 k2' : Nat→Nat→Bool→Str→Prop} (h1 : ∀ m t cs,k1 m t cs→k1' m t cs) (h2 : ∀ t f g s,k2 t f g s→k2' t f g s) : Zp b k1 k2→Zp b k1' k2':=by
  rw [Q3,Q3]
  rintro (⟨a,b,c,d,q⟩ | ⟨a,b,c,d,e,q⟩)
  · exact .inl ⟨a,b,c,d,h1 _ _ _ q⟩
  · exact .inr ⟨a,b,c,d,e,h2 _ _ _ _ q⟩
theorem D6 {h : H} {g : Nat} {k k' : List AV→Prop} (hk : ∀ cs,k cs→k' cs) : glK h g k→glK h g k':=ZE (Wj (fun _ _ cs=>ZE (hk cs)) fun _ _ _ _ h=>h)
theorem okNil_mono {v : AV} {p p' : Prop} (hp : p→p') : Za v p→Za v p':=fun h=>by
  cases v <;> first | exact h.elim | exact hp h | skip
  rename_i fn _ _
  cases fn <;> first | exact h.elim | exact hp h
theorem nilB_mono {c : Nat} {v : AV} {k k' : Bool→Prop} (hk : ∀ b,k b→k' b) : Jr c v k→Jr c v k':=VP (hk _) (ZE (hk _))
theorem pickB_mono {c a b : AV} {k k' : Bool→Prop} (hk : ∀ b,k b→k' b) : Qo c a b k→Qo c a b k':=YU fun _=>VP (YU hk) (YU hk)
theorem pickI_mono {kk : IntKind} {c a b : AV} {k k' : Int→Prop} (hk : ∀ b,k b→k' b) : QbP kk c a b k→QbP kk c a b k':=YU fun _=>VP (Um hk) (Um hk)
theorem pickS_mono {c a b : AV} {k k' : Str→Prop} (hk : ∀ b,k b→k' b) : QbO c a b k→QbO c a b k':=YU fun _=>VP (Ul hk) (Ul hk)
theorem pickV_mono {c a b : AV} {k k' : AV→Prop} (hk : ∀ b,k b→k' b) : QbN c a b k→QbN c a b k':=YU fun _=>VP (hk _) (hk _)
theorem obK_mono {o : Option AV} {k k' : Bool→Prop} (hk : ∀ b,k b→k' b) : obK o k→obK o k':=WX fun _=>YU hk
theorem pushK_mono {b : Blk} {h : H} {k k' : Nat→H→Prop} (hk : ∀ n h,k n h→k' n h) : Qs b h k→Qs b h k':=by
  rw [Ud,Ud]; exact hk _ _
theorem Vi {i : Nat} {b : Blk} {h : H} {k k' : H→Prop} (hk : ∀ h,k h→k' h) : ZL i b h k→ZL i b h k':=by
  rw [QZ,QZ]; rintro ⟨a,b,c⟩; exact ⟨a,b,hk _ c⟩
theorem faK_mono {off : Nat} {p : AV} {k k' : AV→Prop} (hk : ∀ v,k v→k' v) : faK off p k→faK off p k':=Kq (fun _ _=>Y8 fun _=>hk _) fun _ _=>Y8 fun _=>hk _
theorem ixK_mono {size : Nat} {s i : AV} {k k' : AV→Prop} (hk : ∀ v,k v→k' v) : ixK size s i k→ixK size s i k':=Kp (fun h=>h) fun _ _ _ _ _ _=>WL fun _=>ZE (Y8 fun _=>hk _)
theorem ixsK_mono {s i : AV} {k k' : Int→Prop} (hk : ∀ v,k v→k' v) : NF s i k→NF s i k':=Ul fun _=>WL fun _=>ZE (Y8 fun _=>hk _)
theorem UM {d : Nat} {x : Option AV} {k k' : Nat→Prop} (hk : ∀ v,k v→k' v) : Gu d x k→Gu d x k':=by
  cases x with
  | none=>exact hk _
  | some v=>exact WL hk
theorem slK_mono {size : Nat} {v : AV} {lo hi : Option AV} {k k' : AV→Prop} (hk : ∀ v,k v→k' v) : slK size v lo hi k→slK size v lo hi k' :=
  Kp (UM fun _=>UM fun _=>ZE (ZE (hk _))) fun _ _ _ _ _ _=>UM fun _=>UM fun _=>ZE (ZE (ZE (VP (Y8 fun _=>hk _) (Y8 fun _=>Y8 fun _=>Y8 fun _=>hk _))))
theorem ldV_mono {p : AV} {h : H} {k k' : AV→Prop} (hk : ∀ v,k v→k' v) : ldV p h k→ldV p h k':=Kq (fun _ _=>Wj (fun _ _ _=>WX hk) fun _ _ _ _=>ZE (Y8 fun _=>hk _)) fun _ _=>D6 fun _=>WX hk
theorem ldB_mono {p : AV} {h : H} {k k' : Bool→Prop} (hk : ∀ v,k v→k' v) : ldB p h k→ldB p h k':=ldV_mono fun _=>YU hk
theorem ldI_mono {kk : IntKind} {p : AV} {h : H} {k k' : Int→Prop} (hk : ∀ v,k v→k' v) : ldI kk p h k→ldI kk p h k':=ldV_mono fun _=>Um hk
theorem ldS_mono {p : AV} {h : H} {k k' : Str→Prop} (hk : ∀ v,k v→k' v) : ldS p h k→ldS p h k':=ldV_mono fun _=>Ul hk
theorem ldN_mono {n : Nat} {p : AV} {h : H} {k k' : List AV→Prop} (hk : ∀ v,k v→k' v) : ldN n p h k→ldN n p h k':=Kq (fun _ _=>Wj (fun _ _ _=>WX hk) fun _ _ _ _ h=>h) fun _ _=>D6 fun _=>WX hk
theorem stV_mono {p x : AV} {h : H} {k k' : H→Prop} (hk : ∀ h,k h→k' h) : stV p x h k→stV p x h k' :=
  Gc fun _ _=>Wj (fun _ _ _=>ZE (WX fun _=>Vi hk)) fun _ _ _ _=>WL fun _=>ZE (ZE (ZE (Qc1 fun _=>Um fun _=>Vi hk)))
theorem stN_mono {n : Nat} {p : AV} {xs : List AV} {h : H} {k k' : H→Prop} (hk : ∀ h,k h→k' h) : stN n p xs h k→stN n p xs h k' :=
  Gc fun _ _=>Wj (fun _ _ _=>ZE (ZE (WX fun _=>Vi hk))) fun _ _ _ _ h=>h
theorem lenK_mono {v : AV} {k k' : Nat→Prop} (hk : ∀ n,k n→k' n) : Q6 v k→Q6 v k':=Kp (hk _) fun _ _ _ _ _ _=>hk _
theorem Uh {G : Gam} (hd : ∀ f as h k k',(∀ r h,k r h→k' r h)→G.dfn f as h k→G.dfn f as h k') : ∀ {ds : List Dfr} {h : H} {k k' : H→Prop},(∀ h,k h→k' h)→Qr G ds h k→Qr G ds h k'
  | [],h,k,k',hk=>hk h
  | .coll id :: ds, h, k, k', hk => fun q => by
    unfold Qr at q ⊢
    split at q
    · exact Vi (fun h=>Uh hd hk) q
    · exact q.elim
  | .call f as cs :: ds,h,k,k',hk=>hd _ _ _ _ _ fun _ _=>Uh hd hk
theorem leave_gam {J : Qm} {l : List (Nat × Fun)} {ds : List Dfr} {h : H} {k k' : H→Prop} (hk : ∀ h,k h→k' h) : Qr (gam J l) ds h k→Qr (gam J l) ds h k':=Uh (fun _ _ _ _ _ _ q=>q) hk
theorem jn_mono {j j' : AV→H→Prop} {b b' : (AV→H→Prop)→Prop} (hj : ∀ v h,j v h→j' v h) (hb : ∀ j j',(∀ v h,j v h→j' v h)→b j→b' j') : J0.jn j b→J0.jn j' b':=hb _ _ hj
theorem jb_mono {j j' : Bool→AV→Prop} {b b' : (Bool→AV→Prop)→Prop} (hj : ∀ v h,j v h→j' v h) (hb : ∀ j j',(∀ v h,j v h→j' v h)→b j→b' j') : J0.jb j b→J0.jb j' b':=hb _ _ hj
theorem jd_mono {α : Type} {j j' : α→List Dfr→H→Prop} {b b' : (α→List Dfr→H→Prop)→Prop} (hj : ∀ v d h,j v d h→j' v d h) (hb : ∀ j j',(∀ v d h,j v d h→j' v d h)→b j→b' j') : J0.jd j b→J0.jd j' b':=hb _ _ hj
theorem XT {α : Type} {b b' : (α→List Dfr→H→Prop)→α→List Dfr→H→Prop} (hb : ∀ s s' : α→List Dfr→H→Prop,(∀ v d h,s v d h→s' v d h)→∀ v d h,b s v d h→b' s' v d h) : ∀ (n : Nat) (v : α) (d : List Dfr) (h : H),ZW b n v d h→ZW b' n v d h
  | 0,_,_,_=>fun h=>h
  | n + 1,v,d,h=>hb _ _ (XT hb n) v d h
theorem lp_mono {α : Type} {b b' : (α→List Dfr→H→Prop)→α→List Dfr→H→Prop} {v : α} {d : List Dfr} {h : H} (hb : ∀ s s' : α→List Dfr→H→Prop,(∀ v d h,s v d h→s' v d h)→∀ v d h,b s v d h→b' s' v d h) : J0.lp b v d h→J0.lp b' v d h:=by
  rw [J0.lp_ok,J0.lp_ok]; exact XT hb _ _ _ _
def faP (off : Nat) (p : AV) (k : AV→Prop) : Prop:=Go.Am.asPtr p fun id o=>fN (Nat.add o off) fun o=>k (.ptr id o)
def ldP (p : AV) (h : H) (k : AV→Prop) : Prop:=Go.Am.asPtr p fun id off=>Zp (h.get id) (fun _ _ cs=>op' (Zd cs off) k) fun _ _ _ s=>ck (Nat.blt off s.len) (fN (s.get off) fun c=>k (.int .u8 (Int.ofNat c)))
theorem faP_up {off : Nat} {p : AV} {k : AV→Prop} (q : faP off p k) : faK off p k:=by
  unfold faP at q; rw [asPtr_iff] at q
  obtain ⟨i,o,rfl,q⟩:=q; exact q
theorem ND {p : AV} {h : H} {k : AV→Prop} (q : ldP p h k) : ldV p h k:=by
  unfold ldP at q; rw [asPtr_iff] at q
  obtain ⟨i,o,rfl,q⟩:=q; exact q
theorem ldV_eq {p : AV} {h : H} {k : AV→Prop} (q : ldV p h k) : ∃ v,(∀ k' : AV→Prop,ldV p h k' = k' v) ∧ k v:=by
  unfold ldV at q ⊢
  rw [WK] at q
  rcases q with ⟨i,o,rfl,q⟩ | ⟨i,o,rfl,q⟩
  · rw [Q3] at q
    rcases q with ⟨m,t,cs,g,q⟩ | ⟨t,f,gg,s,g,q⟩
    · rw [QF] at q
      obtain ⟨a,ga,q⟩:=q
      exact ⟨a,fun k'=>by show Zp (h.get i) _ _ = _; rw [g]; show op' (Zd cs o) k' = _; rw [ga]; rfl,q⟩
    · rw [Qz, Zk] at q
      exact ⟨_,fun k'=>by show Zp (h.get i) _ _ = _; rw [g]; show ck _ _ = _; rw [q.1,Zk]; rfl,q.2⟩
  · obtain ⟨t, cs, h1, h2, q⟩ := NH q
    rw [QF] at q
    obtain ⟨a,ga,q⟩:=q
    exact ⟨a,fun k'=>by show glK h i _ = _; unfold glK; rw [h1,h2]; show op' (Zd cs o) k' = _; rw [ga]; rfl,q⟩
end Go.Am
namespace Go.Am
open Go Go.ChangeShapes Go.RowKit
def QdB : List Blk→Nat→Tr→Tr
  | [],_,t=>t
  | b :: bs,i,t=>QdB bs (i + 1) (Tr.set t i b)
def Hg (gs : List Blk) : H:=⟨QdB gs 0 .lf,gs.length,gs.length⟩
theorem Dv : ∀ (gs : List Blk) (i : Nat) (t : Tr) (j : Nat),Tr.get (QdB gs i t) j = if i ≤ j ∧ j < i + gs.length then gs.getD (j - i) .dead else Tr.get t j
  | [], i, t, j => by
    show Tr.get t j = _
    rw [if_neg (by simp)]
  | b :: bs, i, t, j => by
    show Tr.get (QdB bs (i + 1) (Tr.set t i b)) j = _
    rw [Dv bs (i + 1) _ j,Tr.get_set]
    by_cases h1 : i + 1 ≤ j ∧ j < i + 1 + bs.length
    · rw [if_pos h1,if_pos (by simp; omega),show j - i = (j - (i + 1)) + 1 from by omega]; simp
    · rw [if_neg h1]
      by_cases h2 : j = i
      · subst h2; rw [if_pos rfl,if_pos (by simp)]; simp
      · rw [if_neg h2,if_neg (by simp; omega)]
theorem Qf1 (gs : List Blk) (i : Nat) : (Hg gs).get i = gs.getD i .dead:=by
  rw [H.get_eq]
  show (if i < gs.length then Tr.get (QdB gs 0 .lf) i else .dead) = _
  rw [Dv]
  by_cases h : i < gs.length
  · rw [if_pos h,if_pos ⟨Nat.zero_le _,by omega⟩]; simp
  · rw [if_neg h]; simp [List.getElem?_eq_none (Nat.le_of_not_lt h)]
def GlOk (W : World) (g : Nat) (b : Blk) : Prop :=
  b = .dead ∨ ∃ (t : Nat) (cs : List AV) (ccs : Array Value),b = .cells false t cs ∧ W.heap[g]? = some (.cells ccs t (0,0)) ∧ ∀ (i : Nat) (a : AV),cs[i]? = some a→∃ v,ccs[i]? = some v ∧ AV.rel YF a v
def Y5 (W : World) (g : Nat) : Nat :=
  match W.heap[g]? with
  | some (.cells ccs _ _)=>ccs.size
  | _=>0
def QeZ : DataW Unit→AV
  | .lit (.int k n)=>.int k n
  | .lit (.bool b)=>.bool b
  | _=>.junk
def Qe9 (P : Program) (t : TypeId) (u : Nat) (d : DataW Unit) : List AV :=
  match P.underlying t,d with
  | some (.array _ e), .agg ds => match P.cellsOf e with
    | 1=>ds.map QeZ
    | _=>[]
  | some (.interface _),.iface _ _=>[.iface u .junk]
  | _,_=>[]
theorem lit_ok {P : Program} {W : World} {base : Nat} {sp : Nat → Bool} {held : Bool} {fuel : Nat} {t : TypeId} {cs : List Value} {d : DataW Unit} {p : List MemPlace} {v : Value} (h : DataW.trod (fun _ => ()) P W base sp held fuel t cs = some (d, p)) (hc : cs = [v]) : AV.rel YF (QeZ d) v := by
  subst hc
  have key : ∀ l,d = .lit l→v = (match l with | .int k n=>.int k n | .bool b=>.bool b | _=>v):=by
    rintro l rfl
    cases fuel with
    | zero=>simp [DataW.trod] at h
    | succ n =>
      unfold DataW.trod at h
      split at h
      all_goals first
        | (simp at h; done)
        | (split at h <;> first | (simp at h; done) | (injection h with h; injection h with h _; injection h with h; subst h; simp_all; done) | skip)
        | (injection h with h; injection h with h _; injection h with h; subst h; simp_all; done)
        | skip
      · simp only [Option.map_eq_some_iff] at h
        obtain ⟨_,_,h⟩:=h; cases h
      · simp only [Option.map_eq_some_iff, Option.bind_eq_some_iff] at h
        obtain ⟨_,_,_,_,h⟩:=h; cases h
      · split at h
        · simp only [Option.bind_eq_some_iff] at h
          obtain ⟨_,_,h⟩:=h
          split at h <;> cases h
        · cases h
  unfold QeZ
  split
  · have:=key _ rfl; simp only at this; rw [this]; simp [AV.rel]
  · have:=key _ rfl; simp only at this; rw [this]; simp [AV.rel]
  · simp [AV.rel]
theorem iface_ok {P : Program} {W : World} {base : Nat} {sp : Nat→Bool} {fuel : Nat} {t : TypeId} {cs : List Value} {d : DataW Unit} {s : String} {p : List MemPlace} {ms : Array (String × TypeId)} (ht : P.underlying t = some (.interface ms)) (h : DataW.trod (fun _=>()) P W base sp false fuel t cs = some (.iface s d,p)) : ∃ u v,cs = [.iface u v]:=by
  cases fuel with
  | zero=>simp [DataW.trod] at h
  | succ n =>
    unfold DataW.trod at h
    rw [ht] at h
    split at h <;> simp_all
theorem glAV_ok {P : Program} {W : World} {fuel : Nat} {t : TypeId} {cs : List Value} {d : DataW Unit} {p : List MemPlace} (h : DataW.trod (fun _ => ()) P W 0 (fun _ => true) false fuel t cs = some (d, p)) :
    ∃ u,∀ (i : Nat) (a : AV),(Qe9 P t u d)[i]? = some a→∃ v,cs[i]? = some v ∧ AV.rel YF a v:=by
  by_cases hi : ∃ ms s x,P.underlying t = some (.interface ms) ∧ d = .iface s x
  · obtain ⟨ms, s, x, ht, rfl⟩ := hi
    obtain ⟨u,v,rfl⟩:=iface_ok ht h
    refine ⟨u,fun i a e=>?_⟩
    unfold Qe9 at e; rw [ht] at e
    cases i with
    | zero =>
      simp at e; subst e
      exact ⟨_,rfl,by simp [AV.rel]⟩
    | succ i=>simp at e
  · refine ⟨0, fun i a e => ?_⟩
    unfold Qe9 at e
    split at e
    · rename_i n e' ds ht
      split at e
      · rename_i hc
        obtain ⟨xs,m,_,hx,hl,hxn,hall⟩:=DataW.trod_array ht h
        injection hx with hx1 hx2
        injection hx1 with hx1
        subst hx1
        rw [List.getElem?_map,List.getElem?_map,Option.map_map,Option.map_eq_some_iff] at e
        obtain ⟨y,hy,rfl⟩:=e
        have hin : i < n:=by rw [← hxn]; exact (List.getElem?_eq_some_iff.1 hy).1
        have hq:=hall i hin
        rw [hy,hc,Nat.mul_one] at hq
        have hlen : i < cs.length:=by
          rcases Nat.lt_or_ge i cs.length with q | q
          · exact q
          · rw [List.drop_eq_nil_of_le q] at hq
            exfalso
            cases m with
            | zero=>simp [DataW.trod] at hq
            | succ m =>
              simp only [List.take_nil] at hq
              unfold DataW.trod at hq
              split at hq <;> simp_all
        refine ⟨cs[i],List.getElem?_eq_getElem hlen,lit_ok (p:=y.2) (fuel:=m) (d:=y.1) hq ?_⟩
        rw [List.drop_eq_getElem_cons hlen]; rfl
      · simp at e
    · rename_i ms s x ht; exact absurd ⟨ms,s,x,ht,rfl⟩ hi
    · simp at e
def Qcc (P : Program) (laid : List (String × DataW Unit)) (ts us : Nat → Nat) (g : Nat) : Blk :=
  match laid.find? fun x=>P.globalNamed x.1 == some g,(P.globals[g]?).map (·.type) with
  | some x, some t => match Qe9 P t (us g) x.2 with
    | []=>.dead
    | a :: as=>.cells false (ts g) (a :: as)
  | _,_=>.dead
def ZR (P : Program) (laid : List (String × DataW Unit)) (ts us : Nat→Nat) : List Blk:=(List.range P.globals.size).map (Qcc P laid ts us)
theorem Qb7 {P : Program} {W : World} : ∀ {l : List (String × DataW Unit)} {ps : List MemPlace},DataW.LaidVars P W l ps→∀ x ∈ l,∃ g t cs fuel p,P.globalNamed x.1 = some g ∧ (P.globals[g]?).map (·.type) = some t ∧ W.var? P x.1 = some cs ∧
    DataW.trod (fun _=>()) P W 0 (fun _=>true) false fuel t cs.toList = some (x.2,p) ∧ ∀ y ∈ MemPlace.row ⟨g,0,none⟩ cs.size,y ∈ ps
  | [],_,_,x,hx=>by cases hx
  | (n, d) :: r, ps, h, x, hx => by
    obtain ⟨g,t,cs,fuel,p,q,h1,h2,h3,h4,h5,rfl⟩:=h
    rcases List.mem_cons.1 hx with rfl | hx
    · exact ⟨g,t,cs,fuel,p,h1,h2,h3,h4,fun y hy=>by simp [hy]⟩
    · obtain ⟨g, t, cs, fuel, p, a1, a2, a3, a4, a5⟩ := Qb7 h5 x hx
      exact ⟨g,t,cs,fuel,p,a1,a2,a3,a4,fun y hy=>by have:=a5 y hy; simp [this]⟩
theorem glBlk_ok {P : Program} {W : World} {laid : List (String × DataW Unit)} (hl : laidMet P laid W) (g : Nat) : ∃ t u, ∀ ts us : Nat → Nat, ts g = t → us g = u → GlOk W g (Qcc P laid ts us g) := by
  obtain ⟨ps,hv,_,hr⟩:=hl
  cases hf : laid.find? fun x=>P.globalNamed x.1 == some g with
  | none=>exact ⟨0,0,fun ts us _ _=>.inl (by simp only [Qcc,hf])⟩
  | some x =>
    have hx : x ∈ laid:=List.mem_of_find?_eq_some hf
    have hp:=List.find?_some hf
    obtain ⟨g',ty,cs,fuel,p,a1,a2,a3,a4,a5⟩:=Qb7 hv x hx
    have hg : g' = g:=by simp only [a1,beq_iff_eq] at hp; injection hp
    subst hg
    obtain ⟨u,hu⟩:=glAV_ok a4
    have hw : ∃ t fr,W.heap[g']? = some (.cells cs t fr):=by
      unfold World.var? at a3
      rw [a1] at a3
      simp only [Option.bind_some] at a3
      split at a3
      · rename_i c t fr hh; injection a3 with a3; subst a3; exact ⟨_,_,hh⟩
      · cases a3
    obtain ⟨t,fr,hw⟩:=hw
    refine ⟨t,u,fun ts us e1 e2=>?_⟩
    unfold Qcc
    rw [hf,a2]
    simp only
    rw [e2]
    cases hq : Qe9 P ty u x.2 with
    | nil=>exact .inl rfl
    | cons a as =>
      rw [hq] at hu
      obtain ⟨v,hv0,_⟩:=hu 0 a rfl
      have hpos : 0 < cs.size:=by
        rcases Nat.eq_zero_or_pos cs.size with q | q
        · rw [Array.eq_empty_of_size_eq_zero q] at hv0; simp at hv0
        · exact q
      obtain ⟨⟨c,t',hc⟩,_⟩:=hr g' 0 (a5 _ (by simp [MemPlace.row]; exact hpos))
      rw [hw] at hc; injection hc with hc; injection hc with _ _ hfr
      subst hfr
      refine .inr ⟨_,_,cs,rfl,by rw [e1]; exact hw,fun i a ha=>?_⟩
      obtain ⟨v,h1,h2⟩:=hu i a ha
      exact ⟨v,by rw [← Array.getElem?_toList]; exact h1,h2⟩
end Go.Am
namespace Go.Am
open Go
set_option linter.all false
end Go.Am
namespace Go.Am
open Go
set_option linter.all false
inductive Sl where
  | nil
  | cons (d : Nat) (v : AV) (r : Sl)
def sget (e : Sl) (t : Nat) : AV:=Sl.rec (motive:=fun _=>AV) .junk (fun d v _ ih=>Bool.rec (motive:=fun _=>AV) ih v (Nat.beq t d)) e
structure SlE (n : Nat) (e : Sl) (env : List AV) : Prop where
  len : env.length = n
  get : ∀ t,sget e t = Wn .junk env t
structure SeenS where
  i : Nat
  op : Op
  e : Sl
  v : AV
  b : Bool
inductive QfY (n : Nat) : List SeenS→List Yy→Prop
  | nil : QfY n [] []
  | cons {i : Nat} {op : Op} {e : Sl} {env : List AV} {v : AV} {b : Bool} {l : List SeenS} {l' : List Yy} (h : SlE n e env) (r : QfY n l l') : QfY n (⟨i,op,e,v,b⟩ :: l) (⟨i,op,env,v,b⟩ :: l')
structure KsS where
  norm : Sl→List Dfr→H→Prop
  exit : Nat→Sl→List Dfr→H→Prop
  ret : Sl→List Dfr→H→Prop
structure KsE (n : Nat) (K' : KsS) (K : Ks) : Prop where
  norm : ∀ e env ds h,SlE n e env→K'.norm e ds h = K.norm env ds h
  exit : ∀ i e env ds h,SlE n e env→K'.exit i e ds h = K.exit i env ds h
  ret : ∀ e env ds h,SlE n e env→K'.ret e ds h = K.ret env ds h
end Go.Am
namespace Go.Am
open Go
structure Low (n : Nat) (h h' : H) : Prop where
  base : h'.base = h.base
  next : h.next ≤ h'.next
  get : ∀ id,id < n→h'.get id = h.get id
theorem Low.refl (n : Nat) (h : H) : Low n h h:=⟨rfl,Nat.le_refl _,fun _ _=>rfl⟩
theorem Low.trans {n : Nat} {h h1 h2 : H} (a : Low n h h1) (b : Low n h1 h2) : Low n h h2:=⟨b.base.trans a.base,Nat.le_trans a.next b.next,fun id hi=>(b.get id hi).trans (a.get id hi)⟩
theorem Low.down {n m : Nat} {h h1 : H} (a : Low n h h1) (hm : m ≤ n) : Low m h h1:=⟨a.base,a.next,fun id hi=>a.get id (by omega)⟩
def Qh (h : H) (b : Blk) : H:=⟨Tr.set h.mem h.next b,Nat.succ h.next,h.base⟩
def QL (h : H) (i : Nat) (b : Blk) : H:=⟨Tr.set h.mem i b,h.next,h.base⟩
theorem QU (h : H) (b : Blk) : (Qh h b).next = h.next + 1:=rfl
theorem Q4 (h : H) (b : Blk) : (Qh h b).base = h.base:=rfl
theorem Ze (h : H) (b : Blk) (id : Nat) : (Qh h b).get id = if id = h.next then b else h.get id:=by
  rw [H.get_eq,H.get_eq]
  show (if id < h.next + 1 then Tr.get (Tr.set h.mem h.next b) id else .dead) = _
  rw [Tr.get_set]
  by_cases h1 : id = h.next
  · subst h1; rw [if_pos (by omega),if_pos rfl,if_pos rfl]
  · rw [if_neg h1, if_neg h1]
    by_cases h2 : id < h.next
    · rw [if_pos (by omega),if_pos h2]
    · rw [if_neg (by omega),if_neg h2]
theorem Kz (h : H) (i : Nat) (b : Blk) : (QL h i b).next = h.next:=rfl
theorem U3 (h : H) (i : Nat) (b : Blk) (hi : i < h.next) (id : Nat) : (QL h i b).get id = if id = i then b else h.get id:=by
  rw [H.get_eq,H.get_eq]
  show (if id < h.next then Tr.get (Tr.set h.mem i b) id else .dead) = _
  rw [Tr.get_set]
  by_cases h1 : id = i
  · subst h1; rw [if_pos hi,if_pos rfl,if_pos rfl]
  · rw [if_neg h1,if_neg h1]
theorem Qw (b : Blk) (h : H) (k : Nat→H→Prop) : Qs b h k = k h.next (Qh h b):=Ud b h k
theorem K3 {i : Nat} {b : Blk} {h : H} (k : H→Prop) (h1 : i < h.next) (h2 : h.base ≤ i) : ZL i b h k = k (QL h i b):=by
  cases h with | mk m n bs=>
  have a1 : Nat.blt i n = true:=by rw [QP]; exact h1
  have a2 : Nat.ble bs i = true:=by rw [Qv]; exact h2
  show ck (Nat.blt i n) (ck (Nat.ble bs i) (Tr.setK m i b fun m'=>k ⟨m',n,bs⟩)) = _
  rw [a1,a2,Tr.setK_eq]; rfl
theorem Low.push (n : Nat) (h : H) (b : Blk) (hn : n ≤ h.next) : Low n h (Qh h b):=⟨rfl,Nat.le_succ _,fun id hi=>by rw [Ze,if_neg (by omega)]⟩
theorem Low.put {n : Nat} {h : H} {i : Nat} (b : Blk) (hi : i < h.next) (hn : n ≤ i) : Low n h (QL h i b):=⟨rfl,Nat.le_refl _,fun id hl=>by rw [U3 h i b hi,if_neg (by omega)]⟩
theorem Uk {c : Bool} {a b : Prop} (h1 : c = true→a) (h2 : c = false→b) : br c a b:=by
  cases c
  · exact h2 rfl
  · exact h1 rfl
theorem Q7 {c : Bool} {a : Prop} (h1 : c = true) (h2 : a) : ck c a:=by rw [h1]; exact h2
theorem QQ (kk : IntKind) (n : Int) (k : Int→Prop) : asI kk (.int kk n) k = k n:=by
  show ck (keq kk kk) (k n) = _
  rw [(W1.2 rfl : keq kk kk = true)]; rfl
theorem W5 (s : Str) (k : Str→Prop) : asS (.str s) k = k s:=rfl
theorem Vs (b : Bool) (k : Bool→Prop) : asB (.bool b) k = k b:=rfl
theorem QJ (l : List AV) (k : List AV→Prop) : Go.Am.asAgg (.agg l) k = k l:=rfl
theorem Z0 {α : Type} (a : α) (k : α→Prop) : op' (some a) k = k a:=rfl
theorem UN (n : Prop) (k : Nat→Nat→Nat→Nat→Nat→Bool→Prop) : JJ .nils n k = n:=rfl
theorem Yl (i o l c e : Nat) (x : Bool) (n : Prop) (k : Nat→Nat→Nat→Nat→Nat→Bool→Prop) : JJ (.slice i o l c e x) n k = k i o l c e x:=rfl
theorem YL (m : Bool) (t : Nat) (cs : List AV) (k1 : Bool→Nat→List AV→Prop) (k2 : Nat→Nat→Bool→Str→Prop) : Zp (.cells m t cs) k1 k2 = k1 m t cs:=rfl
theorem KN (t f : Nat) (g : Bool) (s : Str) (k1 : Bool→Nat→List AV→Prop) (k2 : Nat→Nat→Bool→Str→Prop) : Zp (.bytes t f g s) k1 k2 = k2 t f g s:=rfl
theorem jd_intro {α : Type} {j : α→List Dfr→H→Prop} {b : (α→List Dfr→H→Prop)→Prop} (P : α→List Dfr→H→Prop) (hb : ∀ j',(∀ v d h,P v d h→j' v d h)→b j') (hj : ∀ v d h,P v d h→j v d h) : J0.jd j b:=hb _ hj
theorem NA {α : Type} {body : (α→List Dfr→H→Prop)→α→List Dfr→H→Prop} (Inv : Nat→α→List Dfr→H→Prop)
    (hstep : ∀ n self v d h,Inv n v d h→(∀ n' v' d' h',n' < n→Inv n' v' d' h'→self v' d' h')→body self v d h) {n : Nat} {v : α} {d : List Dfr} {h : H} (hn : n < fuel) (hi : Inv n v d h) : J0.lp body v d h:=by
  rw [J0.lp_ok]
  have go : ∀ f n v d h,n < f→Inv n v d h→ZW body f v d h:=by
    intro f
    induction f with
    | zero=>intro n v d h hn; omega
    | succ f ih =>
      intro n v d h hn hi
      exact hstep n (ZW body f) v d h hi fun n' v' d' h' hlt hi'=>ih n' v' d' h' (by omega) hi'
  exact go fuel n v d h hn hi
def Row (g : Bool) (e n : Nat) (h : H) (v : AV) (l : List UInt8) : Prop :=
  (v = .nils ∧ l = []) ∨ ∃ id ex sg,v = .slice id 0 l.length l.length 1 ex ∧ n ≤ id ∧ id < h.next ∧ h.get id = .bytes e 0 sg (Str.of l) ∧ (g = false→sg = false)
theorem Row.nil (g : Bool) (e n : Nat) (h : H) : Row g e n h .nils []:=.inl ⟨rfl,rfl⟩
theorem Row.down {g : Bool} {e n m : Nat} {h : H} {v : AV} {l : List UInt8} (r : Row g e n h v l) (hm : m ≤ n) : Row g e m h v l:=by
  rcases r with r | ⟨id,ex,sg,r1,r2,r3⟩
  · exact .inl r
  · exact .inr ⟨id,ex,sg,r1,by omega,r3⟩
theorem Row.low {g : Bool} {e n m : Nat} {h h' : H} {v : AV} {l : List UInt8} (r : Row g e n h v l) (hl : Low m h h') (hm : h.next ≤ m) : Row g e n h' v l:=by
  rcases r with r | ⟨id,ex,sg,r1,r2,r3,r4,r5⟩
  · exact .inl r
  · exact .inr ⟨id,ex,sg,r1,r2,by have:=hl.next; omega,by rw [hl.get id (by omega)]; exact r4,r5⟩
theorem Nx (l : List UInt8) : (Str.of l).len = l.length:=rfl
theorem of_one (c : UInt8) : (⟨1,c.toNat⟩ : Str) = Str.of [c]:=by simp [Str.of,Str.num]
theorem Row.push {g : Bool} {e n : Nat} {h : H} {l : List UInt8} (sg ex : Bool) (hn : n ≤ h.next) (hg : g = false→sg = false:=by intro h; first | rfl | (cases h; done)) : Row g e n (Qh h (.bytes e 0 sg (Str.of l))) (.slice h.next 0 l.length l.length 1 ex) l :=
  .inr ⟨h.next,ex,sg,rfl,hn,by rw [QU]; omega,by rw [Ze,if_pos rfl],hg⟩
theorem Row.str {g : Bool} {e n : Nat} {h : H} {v : AV} {l : List UInt8} (r : Row g e n h v l) (k : Str→Prop) : Ua v h k = k (Str.of l):=by
  rcases r with ⟨rfl,rfl⟩ | ⟨id,ex,sg,rfl,r2,r3,r4,r5⟩
  · rfl
  · unfold Ua
    rw [Yl,r4,KN,Zk]
    show ck (Nat.ble (0 + l.length) l.length) _ = _
    have : Nat.ble (0 + l.length) l.length = true:=by rw [Qv]; omega
    rw [this,Vp]
    show k ((Str.of l).sub 0 (0 + l.length)) = _
    rw [Str.sub_of l 0 _ (by omega) (by omega)]
    congr 2; simp
theorem Row.len {g : Bool} {e n : Nat} {h : H} {v : AV} {l : List UInt8} (r : Row g e n h v l) (k : Nat→Prop) : Q6 v k = k l.length:=by
  rcases r with ⟨rfl,rfl⟩ | ⟨id,ex,sg,rfl,r2,r3,r4,r5⟩ <;> rfl
theorem srcB_row {g : Bool} {t e n : Nat} {h : H} {v : AV} {l : List UInt8} (r : Row g e n h v l) (k : Str→Prop) : QdE (.slice t) v h k = k (Str.of l):=r.str k
theorem apB_row {g : Bool} {kd : Kd} {e n : Nat} {h : H} {v x : AV} {l m : List UInt8} {k : AV → H → Prop} (r : Row g e n h v l) (hb : h.base ≤ n) (hn : n ≤ h.next)
    (hx : ∀ f : Str→Prop,QdE kd x h f = f (Str.of m)) (hl : l.length + m.length ≤ QR) (hk : ∀ v' h',Row g e n h' v' (l ++ m)→Low n h h'→k v' h') : apB kd e v x h k:=by
  unfold apB
  rw [hx]
  rcases r with ⟨rfl,rfl⟩ | ⟨id,ex,sg,rfl,r2,r3,r4,r5⟩
  · rw [UN, Nx]
    refine Uk (fun h0=>?_) fun h0=>Q7 ?_ ?_
    · rw [Nat.beq_eq] at h0
      obtain rfl:=List.length_eq_zero_iff.1 h0
      exact hk _ _ (Row.nil g e n h) (Low.refl n h)
    · rw [Qv]; simpa using hl
    · rw [Qw]
      exact hk _ _ (Row.push false false hn (fun _=>rfl)) (Low.push n h _ hn)
  · rw [Yl, r4, KN, Zk, Zk, Nx]
    refine Uk (fun h0=>?_) fun h0=>?_
    · have h0 : l.length + m.length ≤ l.length := (Qv _ _).1 h0
      obtain rfl : m = []:=List.length_eq_zero_iff.1 (by omega)
      exact hk _ _ (by rw [List.append_nil]; exact .inr ⟨id,ex,sg,rfl,r2,r3,r4,r5⟩) (Low.refl n h)
    · refine Q7 (by rw [Qv]; exact hl) (Q7 (by rw [Qv]; show 0 + l.length ≤ l.length; omega) ?_)
      rw [Vp]
      have e1 : ((Str.of l).sub 0 (Nat.add 0 l.length)).cat (Str.of m) = Str.of (l ++ m):=by
        show ((Str.of l).sub 0 (0 + l.length)).cat (Str.of m) = _
        rw [Str.sub_of l 0 _ (by omega) (by omega),Str.cat_of]
        congr 2; simp
      rw [e1]
      have e2 : Nat.add l.length m.length = (l ++ m).length:=by simp
      rw [e2]
      refine Uk (fun _=>?_) fun _=>?_
      · rw [Qw]
        exact hk _ _ (Row.push false false hn (fun _=>rfl)) (Low.push n h _ hn)
      · refine Q7 rfl (Q7 (by rw [Nat.beq_eq]) (Q7 ?_ ?_))
        · show apB.br' _ _ _ = true
          unfold apB.br'
          cases Nat.blt 0 l.length
          · rfl
          · show Nat.ble 0 _ = true
            rw [Qv]; exact Nat.zero_le _
        · rw [K3 _ r3 (by omega), Qw]
          have h1:=Low.put (n:=n) (h:=h) .dead r3 r2
          have h2:=Low.push n (QL h id .dead) (.bytes e 0 sg (Str.of (l ++ m))) hn
          exact hk _ _ (Row.push sg false hn r5) (h1.trans h2)
theorem Vc {kk : IntKind} {m : Nat} (h : m < kHi kk) : Qu kk (Int.ofNat m) = Int.ofNat m:=by rw [ZO]; exact Jg kk m h
theorem WF {a b : Int} : ltI a b = true ↔ a < b:=by rw [Ug]; simp
theorem Zm {a b : Int} : ltI a b = false ↔ b ≤ a:=by rw [Ug]; simp
theorem ZC {a b : Int} : eqI a b = true ↔ a = b:=by rw [Va]; simp
theorem Z4 {a b : Int} : eqI a b = false ↔ a ≠ b:=by rw [Va]; simp
theorem not_true {b : Bool} : Bool.not b = true ↔ b = false:=by cases b <;> simp
def bI (c : UInt8) : Int:=Int.ofNat c.toNat
theorem Kx : ∀ l : List UInt8,WS (l.map fun c=>AV.int .u8 (bI c)) = some (Str.of l)
  | []=>rfl
  | c :: l => by
    have hc:=c.toNat_lt
    show (Bool.rec none (match WS (l.map fun c=>AV.int .u8 (bI c)) with | some s=>some (Str.cat ⟨1,c.toNat⟩ s) | none=>none) (Nat.blt c.toNat 256) : Option Str) = _
    rw [Kx l,(QP _ _).2 (by omega),of_one]
    show some (Str.cat (Str.of [c]) (Str.of l)) = _
    rw [Str.cat_of]; rfl
theorem asRow_map (e : Nat) (l : List UInt8) : UX true e (l.map fun c=>AV.int .u8 (bI c)) = some (.bytes e 0 false (Str.of l)):=by
  show (match WS (l.map fun c=>AV.int .u8 (bI c)) with | some s=>some (Blk.bytes e 0 false s) | none=>none) = _
  rw [Kx]
theorem QaZ {g : Bool} {e n : Nat} {h : H} {row : AV} {l m : List UInt8} {k : AV→H→Prop} (r : Row g e n h row l) (hb : h.base ≤ n) (hn : n ≤ h.next) (hl : l.length + m.length ≤ QR) (hk : ∀ v' h',Row g e n h' v' (l ++ m)→Low n h h'→k v' h') :
    op' (UX true e (m.map fun c=>AV.int .u8 (bI c))) (fun b=>Qs b h fun i h1=>apB (.slice e) e row (.slice i 0 m.length m.length 1 true) h1 k):=by
  rw [asRow_map,Z0,Qw]
  have r1 : Row false e n (Qh h (.bytes e 0 false (Str.of m))) (.slice h.next 0 m.length m.length 1 true) m:=Row.push false true hn (fun _=>rfl)
  have l1:=Low.push h.next h (.bytes e 0 false (Str.of m)) (Nat.le_refl _)
  exact apB_row (r.low l1 (Nat.le_refl _)) (by rw [Q4]; exact hb) (by rw [QU]; omega) (fun f=>srcB_row r1 f) hl fun v' h' r' l'=>hk v' h' r' ((l1.down hn).trans l')
theorem Qe6 {m : List UInt8} {i : Nat} (h : i < m.length) {kk : IntKind} (k : Int→Prop) : NF (.str (Str.of m)) (.int kk (Int.ofNat i)) k = k (bI m[i]):=by
  show ck (Nat.blt i m.length) (fN ((Str.of m).get i) fun c=>k (Int.ofNat c)) = _
  rw [(QP _ _).2 h,Zk,Str.get_of _ _ h]; rfl
theorem eqI_b0 (c : UInt8) : eqI (bI c) (Int.ofNat 0) = decide (c = 0):=by
  rw [Va]
  by_cases h : c = 0
  · subst h; rfl
  · rw [decide_eq_false h, beq_eq_false_iff_ne]
    intro h2
    have h2 : Int.ofNat c.toNat = Int.ofNat 0:=h2
    injection h2 with h2
    exact h (UInt8.toNat_inj.1 h2)
theorem shr_nat (x n : Nat) : Dz (Int.ofNat x) n = Int.ofNat (x >>> n):=rfl
theorem VD {o : Option AV} {v : AV} (h : o = some v) (hs : AV.same v v = true) : Zj o v = true:=by rw [h]; exact hs
theorem QS {h : H} {i o : Nat} {m : Bool} {t : Nat} {cs : List AV} {v : AV} (g : h.get i = .cells m t cs) (e : Zd cs o = some v) (k : AV→Prop) : ldV (.ptr i o) h k = k v:=by
  show Zp (h.get i) _ _ = _
  rw [g]; show op' (Zd cs o) k = _
  rw [e]; rfl
theorem Zy {h : H} {i o : Nat} {m : Bool} {t : Nat} {cs : List AV} {kk : IntKind} {x : Int} (g : h.get i = .cells m t cs) (e : Zd cs o = some (.int kk x)) (k : Int→Prop) : ldI kk (.ptr i o) h k = k x:=by
  unfold ldI; rw [QS g e,QQ]
theorem ZG {h : H} {i o : Nat} {m : Bool} {t : Nat} {cs : List AV} {x : Str} (g : h.get i = .cells m t cs) (e : Zd cs o = some (.str x)) (k : Str→Prop) : ldS (.ptr i o) h k = k x:=by
  unfold ldS; rw [QS g e,W5]
theorem Qe2 {h : H} {i o : Nat} {m : Bool} {t : Nat} {cs : List AV} {x : Bool} (g : h.get i = .cells m t cs) (e : Zd cs o = some (.bool x)) (k : Bool→Prop) : ldB (.ptr i o) h k = k x:=by
  unfold ldB; rw [QS g e,Vs]
theorem QN {h : H} {i o n : Nat} {m : Bool} {t : Nat} {cs l : List AV} (g : h.get i = .cells m t cs) (e : Z1 n (Yg o cs) = some l) (k : List AV→Prop) : ldN n (.ptr i o) h k = k l:=by
  show Zp (h.get i) _ _ = _
  rw [g]; show op' (Z1 n (Yg o cs)) k = _
  rw [e]; rfl
theorem stV_at {h : H} {i o : Nat} {m : Bool} {t : Nat} {cs cs' : List AV} {x : AV} (g : h.get i = .cells m t cs) (h1 : ZQ x = true) (e : Qy o [x] cs = some cs') (hi : i < h.next) (hb : h.base ≤ i) (k : H→Prop) : stV (.ptr i o) x h k = k (QL h i (.cells m t cs')):=by
  show Zp (h.get i) _ _ = _
  rw [g]; show ck (ZQ x) (op' (Qy o [x] cs) fun cs'=>ZL i (.cells m t cs') h k) = _
  rw [h1,e]; show ZL i _ h k = _
  exact K3 k hi hb
theorem QdD {h : H} {i o n : Nat} {m : Bool} {t : Nat} {cs cs' xs : List AV} (g : h.get i = .cells m t cs) (h0 : xs.length = n) (h1 : ZN xs = true) (e : Qy o xs cs = some cs') (hi : i < h.next) (hb : h.base ≤ i) (k : H→Prop) : stN n (.ptr i o) xs h k = k (QL h i (.cells m t cs')):=by
  show Zp (h.get i) _ _ = _
  rw [g]; show ck (Nat.beq xs.length n) (ck (ZN xs) (op' (Qy o xs cs) fun cs'=>ZL i (.cells m t cs') h k)) = _
  rw [h1,e,(Nat.beq_eq ▸ h0 : Nat.beq xs.length n = true)]; show ZL i _ h k = _
  exact K3 k hi hb
theorem Kv {h : H} {i o n : Nat} {m : Bool} {t : Nat} {cs l : List AV} (g : h.get i = .cells m t cs) (e : Z1 n (Yg o cs) = some l) : ZU n (.ptr i o) h = some (.agg l):=by
  unfold ZU; simp only [g,e]
theorem jn_is (j : AV→H→Prop) (b : (AV→H→Prop)→Prop) : J0.jn j b = b j:=rfl
theorem jb_is (j : Bool→AV→Prop) (b : (Bool→AV→Prop)→Prop) : J0.jb j b = b j:=rfl
theorem Yv {α : Type} (j : α→List Dfr→H→Prop) (b : (α→List Dfr→H→Prop)→Prop) : J0.jd j b = b j:=rfl
theorem WR (a b : Prop) : br true a b = a:=rfl
theorem Wi (a b : Prop) : br false a b = b:=rfl
theorem QfI (a : Prop) : ck true a = a:=rfl
theorem asBU_bool (b : Bool) (k : Bool→Prop) (n : Prop) : QH (.bool b) k n = k b:=rfl
theorem asBU_skip (k : Bool→Prop) (n : Prop) : QH Qb k n = n:=rfl
theorem pickB_t (a b : AV) (k : Bool→Prop) : Qo (.bool true) a b k = asB a k:=rfl
theorem pickB_f (a b : AV) (k : Bool→Prop) : Qo (.bool false) a b k = asB b k:=rfl
theorem ixK1 {id len cap es i : Nat} {ex : Bool} {kk : IntKind} (hi : i < len) (k : AV→Prop) : ixK 1 (.slice id 0 len cap es ex) (.int kk (Int.ofNat i)) k = k (.ptr id i):=by
  show ck (Nat.blt i len) (fN (Nat.add 0 (Nat.mul i 1)) fun o=>k (.ptr id o)) = _
  rw [(QP _ _).2 hi,Zk]
  have e : Nat.add 0 (Nat.mul i 1) = i:=by show 0 + i * 1 = i; omega
  rw [e]; rfl
theorem Ye (id o len c e : Nat) (x : Bool) (k : Nat→Prop) : Q6 (.slice id o len c e x) k = k len:=rfl
theorem QW (off i o : Nat) (k : AV→Prop) : faK off (.ptr i o) k = k (.ptr i (Nat.add o off)):=by
  show fN (Nat.add o off) (fun o=>k (.ptr i o)) = _
  rw [Zk]
end Go.Am
namespace Go.Am
open Go
def V1 (μ : Mu) (n : Nat) : Mu:=⟨fun id=>if id < n then μ id else none,μ.sz⟩
theorem JG {μ : Mu} {n id : Nat} (h : id < n) : V1 μ n id = μ id:=if_pos h
theorem cutMu_ge {μ : Mu} {n id : Nat} (h : n ≤ id) : V1 μ n id = none:=if_neg (by omega)
theorem YG {μ : Mu} {n id : Nat} {p : Nat × Nat} (h : V1 μ n id = some p) : id < n ∧ μ id = some p:=by
  by_cases hi : id < n
  · exact ⟨hi,by rw [← JG hi]; exact h⟩
  · rw [cutMu_ge (by omega)] at h; cases h
structure Sub (h0 h : H) : Prop where
  full : h0.base = h0.next
  le : h0.next ≤ h.base
  get : ∀ id,id < h0.next→h0.get id = h.get id
theorem Sub.empty (h : H) : Sub H0 h:=⟨rfl,Nat.zero_le _,fun _ hi=>absurd hi (Nat.not_lt_zero _)⟩
theorem Sub.low {h0 h h' : H} {n : Nat} (s : Sub h0 h) (l : Low n h h') (hn : h0.next ≤ n) : Sub h0 h':=⟨s.full,by rw [l.base]; exact s.le,fun id hi=>(s.get id hi).trans (l.get id (by omega)).symm⟩
theorem BlkRelU.cut {μ : Mu} {w : World} {b d n : Nat} {k : Blk} {u : Bool} (h : BlkRelU u μ w b d k) (hk : (∃ m t cs, k = .cells m t cs ∧ AV.underL n cs) ∨ (∃ t f g s, k = .bytes t f g s) ∨ k = .dead) : BlkRelU u (V1 μ n) w b d k := by
  rcases hk with ⟨m,t,cs,rfl,hu⟩ | ⟨t,f,g,s,rfl⟩ | rfl
  · obtain ⟨ccs, fr, h1, h2, h3⟩ := h
    refine ⟨ccs,fr,h1,fun i a ha=>?_,h3⟩
    obtain ⟨v,hv,hr⟩:=h2 i a ha
    refine ⟨v,hv,AV.rel_down (μ:=V1 μ n) (μ':=μ) (n:=n) (fun id hi=>⟨(JG hi).symm,rfl⟩) a v ?_ hr⟩
    have : ∀ (l : List AV) (i : Nat) (a : AV),AV.underL n l→l[i]? = some a→AV.under n a:=by
      intro l
      induction l with
      | nil=>intro i a _ h; simp at h
      | cons b l ih =>
        intro i a hu ha
        cases i with
        | zero=>simp at ha; subst ha; exact hu.1
        | succ i=>exact ih i a hu.2 (by simpa using ha)
    exact this cs i a hu ha
  · exact h
  · trivial
def AllRows (h0 : H) : Prop:=∀ id,id < h0.next→(∃ m t cs,h0.get id = .cells m t cs ∧ AV.underL h0.next cs) ∨ (∃ t f g s,h0.get id = .bytes t f g s) ∨ h0.get id = .dead
theorem AllRows.empty : AllRows H0:=fun _ hi=>absurd hi (Nat.not_lt_zero _)
theorem rel_cut {μ : Mu} {h0 h : H} {w : World} (hr : Rel μ h w) (s : Sub h0 h) (hs : AllRows h0) : Rel (V1 μ h0.next) h0 w:=by
  refine ⟨⟨by rw [s.full]; exact Nat.le_refl _⟩,fun id b d hm=>?_,fun i j b d e hi hj li lj hbj=>?_,fun id b d hm=>?_,fun id b d ccs t fr hm hc=>?_,fun g t cs hg hc=>?_⟩
  · obtain ⟨h1, h2⟩ := YG hm
    exact ⟨h1,(hr.dom id b d h2).2⟩
  · obtain ⟨h1, h2⟩ := YG hi
    obtain ⟨h3,h4⟩:=YG hj
    rw [s.full] at hbj
    exact absurd h3 (Nat.not_lt.2 hbj)
  · obtain ⟨h1, h2⟩ := YG hm
    refine BlkRelU.cut ?_ (hs id h1)
    have hf : Nat.ble h0.base id = false:=by
      cases hb : Nat.ble h0.base id
      · rfl
      · rw [Qv,s.full] at hb; omega
    have hf2 : Nat.ble h.base id = false:=by
      cases hb : Nat.ble h.base id
      · rfl
      · rw [Qv] at hb; have:=s.le; omega
    have:=hr.blk id b d h2
    rw [hf2] at this
    rw [s.get id h1,hf]; exact this
  · obtain ⟨h1, h2⟩ := YG hm
    exact hr.cnt id b d ccs t fr h2 hc
  · rw [s.full] at hg
    rw [JG hg]
    exact hr.glb g t cs (Nat.lt_of_lt_of_le hg s.le) (by rw [← s.get g hg]; exact hc)
theorem Rel.same {μ : Mu} {h : H} {w w' : World} (hr : Rel μ h w) (hz : w.heap.size ≤ w'.heap.size) (hb : ∀ b,b < w.heap.size→w'.heap[b]? = w.heap[b]?) : Rel μ h w':=by
  refine ⟨hr.wf,fun id b d hm=>⟨(hr.dom id b d hm).1,Nat.lt_of_lt_of_le (hr.dom id b d hm).2 hz⟩,hr.inj,fun id b d hm=>?_,fun id b d ccs t fr hm hc=>?_,hr.glb⟩
  · exact BlkRelU.mono (Le.refl μ) (hr.blk id b d hm) fun _=>hb b (hr.dom id b d hm).2
  · rw [hb b (hr.dom id b d hm).2] at hc
    exact hr.cnt id b d ccs t fr hm hc
theorem Ge {μ μ1 : Mu} {h0 h h1 : H} {w w' : World} {r : AV} {v : Value} (hR : Rel μ h w) (p : Post (V1 μ h0.next) h0 w μ1 h1 w') (hv : r.rel μ1 v) (s : Sub h0 h) (hu : r.under h0.next) : r.rel μ v ∧ Post μ h w μ h w':=by
  have hb : ∀ b,b < w.heap.size→w'.heap[b]? = w.heap[b]?:=fun b hlt=>p.frame.block b hlt fun id d h1 h2=>by
    obtain ⟨h3,_⟩:=YG h2
    rw [s.full] at h1
    exact absurd h3 (Nat.not_lt.2 h1)
  refine ⟨?_,⟨fun _ _=>⟨rfl,rfl⟩,hR.same p.frame.size hb,⟨p.frame.os,p.frame.tape,p.frame.output,p.frame.size,fun b hlt _=>hb b hlt⟩,Grows.refl μ h,fun id b d hi hm=>absurd (hR.dom id b d hm).1 (by omega)⟩⟩
  have h2:=AV.rel_down (μ:=V1 μ h0.next) (μ':=μ1) (n:=h0.next) p.ext r v hu hv
  exact AV.rel_mono (μ:=V1 μ h0.next) (μ':=μ) (fun id p hm=>⟨(YG hm).2,rfl⟩) r v h2
def Qa1 (g : Fun) : Fun:=fun as h k=>∃ h0,Sub h0 h ∧ AllRows h0 ∧ AV.underL h0.next as ∧ g as h0 fun r _=>AV.under h0.next r ∧ k r h
theorem Qe.alone {P : Program} {f : FuncId} {g : Fun} (hg : Qe P f g) : Qe P f (Qa1 g):=by
  intro as h Q ⟨h0,s,hs,hu,e⟩ μ w args hR ha
  have hR0:=rel_cut hR s hs
  have ha0 : AV.relL (V1 μ h0.next) as args.toList:=AV.relL_down (μ:=V1 μ h0.next) (μ':=μ) (n:=h0.next) (fun id hi=>⟨(JG hi).symm,rfl⟩) as _ hu ha
  rcases hg as h0 _ e (V1 μ h0.next) w args hR0 ha0 with ⟨v,w',μ1,r,h1,q1,q2,q3,q4,q5⟩ | ⟨q1,q2⟩
  · obtain ⟨r1, r2⟩ := Ge hR q3 q2 s q4
    exact .inl ⟨v,w',μ,r,h,q1,r1,r2,q5⟩
  · refine .inr ⟨q1, Calls.mono q2 fun e w' ⟨v, μ1, r, h1, p1, p2, p3, p4, p5⟩ => ?_⟩
    obtain ⟨r1,r2⟩:=Ge hR p3 p2 s p4
    exact ⟨v,μ,r,h,p1,r1,r2,p5⟩
end Go.Am
namespace Go.Am
open Go Go.ChangeShapes Go.WideShapes Go.RowKit
abbrev YW:=Nat × Nat × Nat × List AV
def blkIn (r : YW) : Blk:=.cells true r.2.2.1 r.2.2.2
theorem rowAt_le {P : Program} {fits : TypeId → Bool} : ∀ {d : Nat} {e : TypeId} {count off n : Nat}, rowAt P fits d e count off n = true → off ≤ count * P.cellsOf e
  | 0,_,_,_,_,h=>by unfold rowAt at h; cases h
  | d + 1, e, count, off, n, h => by
    unfold rowAt at h
    simp only at h
    split at h
    · cases h
    · rename_i hs
      have hs : 0 < P.cellsOf e:=Nat.pos_of_ne_zero hs
      have hdm:=Nat.div_add_mod off (P.cellsOf e)
      have hml:=Nat.mod_lt off hs
      rw [Bool.or_eq_true] at h
      rcases h with h | h
      · simp only [Bool.and_eq_true, beq_iff_eq, decide_eq_true_eq] at h
        have h1:=Nat.mul_le_mul_right (P.cellsOf e) (show off / P.cellsOf e ≤ count by omega)
        rw [Nat.mul_comm (off / P.cellsOf e)] at h1; omega
      · rw [Bool.and_eq_true, decide_eq_true_eq] at h
        have h1:=Nat.mul_le_mul_right (P.cellsOf e) (show off / P.cellsOf e + 1 ≤ count by omega)
        rw [Nat.add_mul,Nat.mul_comm (off / P.cellsOf e)] at h1; omega
theorem GX {P : Program} : ∀ {d : Nat} {e : TypeId} {count off : Nat} {u : TypeId} {n : Nat},liesAt P d e count off u n = true→off ≤ count * P.cellsOf e
  | 0,_,_,_,_,_,h=>by unfold liesAt at h; cases h
  | d + 1, e, count, off, u, n, h => by
    unfold liesAt at h
    rw [Bool.or_eq_true] at h
    rcases h with h | h
    · exact rowAt_le h
    · split at h
      · exact GX h
      · cases h
theorem has_row {P : Program} {w : World} {r : Reach} {base : Nat} {a : Addr} {e : TypeId} {n : Nat} (h : w.has P r base a e n) : a.spot = none ∧ ∃ ccs t fr,w.heap[a.block]? = some (.cells ccs t fr) ∧ a.off ≤ ccs.size:=by
  obtain ⟨_,h1,row,cells,h2,h3⟩:=h
  refine ⟨h1,?_⟩
  unfold World.shape? at h2
  split at h2
  · rename_i ccs t fr hc
    injection h2 with h2; injection h2 with e1 e2; subst e1 e2
    refine ⟨ccs,t,fr,hc,?_⟩
    have:=GX h3
    have h4:=Nat.div_mul_le_self ccs.size (P.cellsOf t)
    omega
  · cases h2
section
variable {H' : Type} {enc : TypeId × Value→H'} {P : Program} {w : World} {base : Nat} {sp : Nat→Bool} {hd : Bool}
theorem V8 {t : TypeId} {fuel : Nat} {v : Value} {y : DataW H' × List MemPlace} (ht : P.underlying t = some .string) (h : DataW.trod enc P w base sp hd fuel t [v] = some y) : ∃ s,v = .string s ∧ s.size ≤ maxLen:=by
  cases fuel with
  | zero=>unfold DataW.trod at h; cases h
  | succ fuel =>
    unfold DataW.trod at h
    simp only [ht] at h
    cases v <;> simp only at h <;> first | (cases h; done) | skip
    split at h
    · rename_i hs; exact ⟨_,rfl,hs⟩
    · cases h
theorem cell_add {b o i : Nat} {ccs : Array Value} {t : TypeId} {fr : Nat × Nat} {v : Value} (hb : w.heap[b]? = some (.cells ccs t fr)) (h : w.cell? ((⟨b,o,none⟩ : Addr).add i) = some v) : ccs[o + i]? = some v:=by
  have e : (⟨b,o,none⟩ : Addr).add i = ⟨b,o + i,none⟩:=by
    unfold Addr.add; split
    · rename_i h0; subst h0; rfl
    · rfl
  rw [e] at h
  unfold World.cell? at h
  simp only [hb] at h
  exact h
end
def QM (P : Program) (u : TypeId) (a : AV) : Prop :=
  match P.underlying u with
  | some (.int k)=>∃ n,a = .int k n
  | some .string=>∃ l,a = .str (Str.of l)
  | some .bool=>∃ b,a = .bool b
  | _=>a = .junk
def W8 (P : Program) : List TypeId→List AV→Prop
  | [],[]=>True
  | u :: us,a :: as=>QM P u a ∧ W8 P us as
  | _,_=>False
theorem cell_shapeL {P : Program} {w : World} {r : Reach} {base : Nat} {u : TypeId} {v : Value} {μ : Mu} (h : Cell.okWide P w r base u v) : ∃ a,QM P u a ∧ AV.rel μ a v:=by
  unfold QM
  cases hu : P.underlying u with
  | none=>exact ⟨.junk,rfl,by simp only [AV.rel]⟩
  | some d =>
    cases d with
    | bool =>
      obtain ⟨b,rfl⟩:=okWide_bool hu (show Value.okWide P w r base u v by simp only [Value.okWide,hu]; exact h)
      exact ⟨.bool b,⟨b,rfl⟩,by simp only [AV.rel]⟩
    | int k =>
      obtain ⟨b,rfl⟩:=okWide_int hu (show Value.okWide P w r base u v by simp only [Value.okWide,hu]; exact h)
      exact ⟨.int k b,⟨b,rfl⟩,by simp only [AV.rel]⟩
    | string =>
      obtain ⟨b,rfl⟩:=okWide_string hu (show Value.okWide P w r base u v by simp only [Value.okWide,hu]; exact h)
      exact ⟨.str (Str.of b.data.toList),⟨_,rfl⟩,by simp only [AV.rel]; exact ⟨b,rfl,rfl⟩⟩
    | _=>exact ⟨.junk,rfl,by simp only [AV.rel]⟩
theorem XA {P : Program} {w : World} {r : Reach} {base : Nat} {μ : Mu} : ∀ {ts : List TypeId} {vs : List Value},vs.length = ts.length→(∀ (i : Nat) (v : Value),vs[i]? = some v→∃ u,ts[i]? = some u ∧ Cell.okWide P w r base u v)→∃ as,W8 P ts as ∧ AV.relL μ as vs
  | [],vs,hl,_=>⟨[],trivial,AV.relL_nil.2 (List.length_eq_zero_iff.1 hl)⟩
  | u :: ts,[],hl,_=>by cases hl
  | u :: ts, v :: vs, hl, h => by
    obtain ⟨u',hu,hc⟩:=h 0 v rfl
    have : u = u':=by simpa using hu
    subst this
    obtain ⟨a,ha,hr⟩:=cell_shapeL (μ:=μ) hc
    obtain ⟨as,has,hrs⟩:=XA (μ:=μ) (ts:=ts) (vs:=vs) (by simpa using hl) fun i v hv=>by simpa using h (i + 1) v (by simpa using hv)
    exact ⟨a :: as,⟨ha,has⟩,AV.relL_cons_cons.2 ⟨hr,hrs⟩⟩
theorem Gf {P : Program} {w : World} {r : Reach} {base : Nat} {t : TypeId} {v : Value} {fs : Array Field} {ts : List TypeId} {μ : Mu} (ht : P.underlying t = some (.struct fs)) (hts : P.cellTypes P.depth t = some ts) (hc : P.cellsOf t = ts.length) (h : Value.okWide P w r base t v) :
    ∃ (as : List AV) (cs : Array Value),W8 P ts as ∧ v = .agg cs ∧ AV.relL μ as cs.toList ∧ ∀ (i : Nat) (x : Value),cs.toList[i]? = some x→∃ u,ts[i]? = some u ∧ Cell.okWide P w r base u x:=by
  simp only [Value.okWide,ht] at h
  obtain ⟨cs,rfl,hs,ts',h1,_,h2⟩:=h
  rw [hts] at h1
  injection h1 with h1; subst h1
  have hl : cs.toList.length = ts.length:=by rw [Array.length_toList,hs,hc]
  have hcell : ∀ (i : Nat) (x : Value),cs.toList[i]? = some x→∃ u,ts[i]? = some u ∧ Cell.okWide P w r base u x:=fun i v hv=>by
    rw [Array.getElem?_toList] at hv
    obtain ⟨u,hu,hok⟩:=h2 i v hv
    have hi : i < cs.size:=(Array.getElem?_eq_some_iff.1 hv).1
    have hi' : i < ts.length:=by rw [← hl,Array.length_toList]; exact hi
    rw [Nat.mod_eq_of_lt hi'] at hu
    exact ⟨u,hu,hok⟩
  obtain ⟨as,q1,q2⟩:=XA (P:=P) (w:=w) (r:=r) (base:=base) (μ:=μ) (ts:=ts) (vs:=cs.toList) hl hcell
  exact ⟨as,cs,q1,rfl,q2,hcell⟩
end Go.Am
namespace Go.Am
open Go
mutual
def AV.flat : AV→Bool
  | .bool _=>true
  | .int _ _=>true
  | .str _=>true
  | .nilp=>true
  | .nils=>true
  | .nilm=>true
  | .nilf=>true
  | .nili=>true
  | .junk=>true
  | .agg cs=>AV.flatL cs
  | .tuple cs=>AV.flatL cs
  | _=>false
def AV.flatL : List AV→Bool
  | []=>true
  | a :: as=>AV.flat a && AV.flatL as
end
mutual
theorem AV.flat_rel {μ μ' : Mu} : ∀ (a : AV) (v : Value),a.flat = true→a.rel μ v→a.rel μ' v
  | .bool _,_,_,h=>by simpa [AV.rel] using h
  | .int _ _,_,_,h=>by simpa [AV.rel] using h
  | .str _,_,_,h=>by simpa [AV.rel] using h
  | .nilp,_,_,h=>by simpa [AV.rel] using h
  | .nils,_,_,h=>by simpa [AV.rel] using h
  | .nilm,_,_,h=>by simpa [AV.rel] using h
  | .nilf,_,_,h=>by simpa [AV.rel] using h
  | .nili,_,_,h=>by simpa [AV.rel] using h
  | .junk,_,_,_=>by simp [AV.rel]
  | .agg cs, v, hf, h => by
    simp only [AV.rel,AV.flat] at h hf ⊢
    obtain ⟨vs,h1,h2⟩:=h; exact ⟨vs,h1,AV.flatL_rel cs _ hf h2⟩
  | .tuple cs, v, hf, h => by
    simp only [AV.rel,AV.flat] at h hf ⊢
    obtain ⟨vs,h1,h2⟩:=h; exact ⟨vs,h1,AV.flatL_rel cs _ hf h2⟩
  | .ptr _ _,_,hf,_=>by simp [AV.flat] at hf
  | .slice _ _ _ _ _ _,_,hf,_=>by simp [AV.flat] at hf
  | .map _,_,hf,_=>by simp [AV.flat] at hf
  | .func _ _ _,_,hf,_=>by simp [AV.flat] at hf
  | .iface _ _,_,hf,_=>by simp [AV.flat] at hf
  | .yield _,_,hf,_=>by simp [AV.flat] at hf
  | .glob _ _,_,hf,_=>by simp [AV.flat] at hf
theorem AV.flatL_rel {μ μ' : Mu} : ∀ (l : List AV) (vs : List Value),AV.flatL l = true→AV.relL μ l vs→AV.relL μ' l vs
  | [],_,_,h=>by simpa [AV.relL] using h
  | a :: as, vs, hf, h => by
    simp only [AV.relL,AV.flatL,Bool.and_eq_true] at h hf ⊢
    obtain ⟨v,vs',h1,h2,h3⟩:=h; exact ⟨v,vs',h1,AV.flat_rel a _ hf.1 h2,AV.flatL_rel as _ hf.2 h3⟩
end
theorem Kh : ∀ {l : List AV} {i : Nat} {a : AV},AV.flatL l = true→l[i]? = some a→a.flat = true
  | [],i,a,_,h=>by simp at h
  | b :: l, 0, a, hf, h => by
    simp only [AV.flatL,Bool.and_eq_true] at hf
    simp at h; subst h; exact hf.1
  | b :: l, i + 1, a, hf, h => by
    simp only [AV.flatL,Bool.and_eq_true] at hf
    exact Kh hf.2 (by simpa using h)
def hOne (b : Blk) : H:=⟨Tr.set .lf 0 b,1,0⟩
theorem hOne_get (b : Blk) : (hOne b).get 0 = b:=rfl
theorem U8 {μ μ' : Mu} {w : World} {b d : Nat} {m : Bool} {t : Nat} {cs : List AV} (hf : AV.flatL cs = true) (h : BlkRel μ w b d (.cells m t cs)) : BlkRel μ' w b d (.cells m t cs):=by
  obtain ⟨ccs,fr,h1,h2,h3,h4⟩:=h
  exact ⟨ccs,fr,h1,fun i a ha=>let ⟨v,hv,hr⟩:=h2 i a ha; ⟨v,hv,AV.flat_rel a v (Kh hf ha) hr⟩,h3,h4⟩
def XO (μ : Mu) (id : Nat) : Mu:=⟨fun i=>if i = 0 then μ id else none,fun i=>if i = 0 then μ.sz id else 0⟩
theorem DQ {μ μ1 : Mu} {h h1 : H} {w w' : World} {id t b d : Nat} {cs cs' : List AV} (hR : Rel μ h w) (hm : μ id = some (b, d)) (hb : h.base ≤ id) (hg : h.get id = .cells false t cs)
    (p : Post (XO μ id) (hOne (.cells false t cs)) w μ1 h1 w') (hg1 : h1.get 0 = .cells false t cs') (hf' : AV.flatL cs' = true) : Post μ h w μ (QL h id (.cells false t cs')) w':=by
  have hid:=(hR.dom id b d hm).1
  have hm0 : XO μ id 0 = some (b,d):=by show (if (0 : Nat) = 0 then μ id else none) = _; rw [if_pos rfl]; exact hm
  have hm1 : μ1 0 = some (b,d):=by rw [(p.ext 0 Nat.one_pos).1]; exact hm0
  have hs1 : μ1.sz 0 = μ.sz id:=by rw [(p.ext 0 Nat.one_pos).2]; show (if (0 : Nat) = 0 then μ.sz id else 0) = _; rw [if_pos rfl]
  have other : ∀ c,c < w.heap.size→c ≠ b→w'.heap[c]? = w.heap[c]?:=fun c hc hne=>p.frame.block c hc fun i e _ hi=>by
    have hi : (if i = 0 then μ id else none) = some (c,e):=hi
    by_cases h0 : i = 0
    · rw [if_pos h0,hm] at hi; injection hi with hi; injection hi with e1 e2; exact absurd e1.symm hne
    · rw [if_neg h0] at hi; cases hi
  have hlive : (h.get id).live = true:=by rw [hg]; rfl
  have hpg : ∀ i,(QL h id (.cells false t cs')).get i = if i = id then .cells false t cs' else h.get i:=fun i=>U3 h id _ hid i
  have hsz:=p.frame.size
  have hcnt : ∀ ccs tt fr,w'.heap[b]? = some (.cells ccs tt fr)→∀ i e,μ i = some (b,e)→ccs.size = μ.sz i:=fun ccs tt fr hw i e hi=>by
    have h2:=p.rel.cnt 0 b d ccs tt fr hm1 hw
    rw [hs1] at h2
    have hold:=hR.blk id b d hm
    rw [hg] at hold
    obtain ⟨ccs0,fr0,q1,_⟩:=hold
    rw [h2,← hR.cnt id b d ccs0 t fr0 hm q1,hR.cnt i b e ccs0 t fr0 hi q1]
  have hblk : BlkRel μ w' b d (.cells false t cs'):=by
    have h2:=p.rel.blk 0 b d hm1
    rw [hg1] at h2
    have hb1 : h1.base = 0:=p.grows.base
    exact U8 hf' (h2.full (by rw [Qv,hb1]; exact Nat.zero_le _))
  refine ⟨fun _ _=>⟨rfl,rfl⟩,⟨⟨hR.wf.low⟩,fun i c e hi=>⟨(hR.dom i c e hi).1,Nat.lt_of_lt_of_le (hR.dom i c e hi).2 hsz⟩,fun i j c e f hi hj li lj hbj=>?_,fun i c e hi=>?_,fun i c e ccs tt fr hi hw=>?_,?_⟩,⟨p.frame.os,p.frame.tape,p.frame.output,hsz,fun c hc hn=>other c hc fun e=>?_⟩,⟨Nat.le_refl _,rfl,fun i hi hn=>?_,fun i hi=>?_,fun i hi hl=>?_⟩,fun i c e hi hi2=>absurd (hR.dom i c e hi2).1 (by have : h.next ≤ i:=hi; omega)⟩
  · have live : ∀ q, ((QL h id (.cells false t cs')).get q).live = true → (h.get q).live = true := fun q hq => by
      rw [hpg] at hq
      by_cases e : q = id
      · rw [e]; exact hlive
      · rw [if_neg e] at hq; exact hq
    exact hR.inj i j c e f hi hj (live i li) (live j lj) hbj
  · rw [hpg]
    by_cases e1 : i = id
    · subst e1
      rw [hm] at hi; injection hi with hi; injection hi with e2 e3; subst e2 e3
      rw [if_pos rfl]; exact hblk.any
    · rw [if_neg e1]
      cases hli : (h.get i).live with
      | false =>
        have : h.get i = .dead:=by revert hli; cases h.get i <;> simp [Blk.live]
        rw [this]; trivial
      | true =>
        exact (hR.blk i c e hi).mono (Le.refl _) fun _=>other c (hR.dom i c e hi).2 fun ec=>by
          subst ec; exact e1 (hR.inj i id c e d hi hm hli hlive hb)
  · by_cases ec : c = b
    · subst ec; exact hcnt ccs tt fr hw i e hi
    · exact hR.cnt i c e ccs tt fr hi (by rw [← other c (hR.dom i c e hi).2 ec]; exact hw)
  · exact hR.glb.step rfl (fun i hi=>by have hi : i < h.base:=hi; rw [hpg,if_neg (by omega)]) fun _ _=>rfl
  · subst e
    have:=hn id d hb hm; rw [hlive] at this; cases this
  · rw [hpg,if_neg]; intro e; subst e; rw [hm] at hn; cases hn
  · rw [hpg,if_neg (by omega)]
  · rw [hpg] at hl
    by_cases e : i = id
    · rw [e]; exact hlive
    · rw [if_neg e] at hl; exact hl
def ownF (g : Fun) : Fun:=fun xs h k=>∃ (id t : Nat) (cs ys : List AV),xs = .ptr id 0 :: ys ∧ h.base ≤ id ∧ h.get id = .cells false t cs ∧ AV.flatL cs = true ∧ AV.flatL ys = true ∧
  g (.ptr 0 0 :: ys) (hOne (.cells false t cs)) fun r h1=>r.flat = true ∧ ∃ cs',h1.get 0 = .cells false t cs' ∧ AV.flatL cs' = true ∧ k r (QL h id (.cells false t cs'))
theorem Qe.own {P : Program} {f : FuncId} {g : Fun} (hg : Qe P f g) : Qe P f (ownF g):=by
  intro xs h Q ⟨id,t,cs,ys,hxs,hb,hgi,hf,hfy,e⟩ μ w args hR ha
  subst hxs
  obtain ⟨v0,vs,hvs,h0,hys⟩:=AV.relL_cons.1 ha
  have h0':=h0
  simp only [AV.rel] at h0'
  obtain ⟨b,d,hm,rfl⟩:=h0'
  have hm0 : XO μ id 0 = some (b,d):=by show (if (0 : Nat) = 0 then μ id else none) = _; rw [if_pos rfl]; exact hm
  have hR0 : Rel (XO μ id) (hOne (.cells false t cs)) w:=by
    have only : ∀ i c e,XO μ id i = some (c,e)→i = 0 ∧ c = b ∧ e = d:=fun i c e hi=>by
      have hi : (if i = 0 then μ id else none) = some (c,e):=hi
      by_cases h0 : i = 0
      · rw [if_pos h0,hm] at hi; injection hi with hi; injection hi with e1 e2; exact ⟨h0,e1.symm,e2.symm⟩
      · rw [if_neg h0] at hi; cases hi
    refine ⟨⟨Nat.zero_le _⟩,fun i c e hi=>?_,fun i j c e f hi hj _ _ _=>?_,fun i c e hi=>?_,fun i c e ccs tt fr hi hw=>?_,fun g _ _ hg _=>absurd hg (Nat.not_lt_zero _)⟩
    · obtain ⟨rfl,rfl,rfl⟩:=only i c e hi; exact ⟨Nat.one_pos,(hR.dom id _ _ hm).2⟩
    · rw [(only i c e hi).1,(only j c f hj).1]
    · obtain ⟨rfl, rfl, rfl⟩ := only i c e hi
      have h2:=hR.blk id _ _ hm
      rw [hgi] at h2
      rw [hOne_get]
      exact (U8 hf (h2.full (by rw [Qv]; exact hb))).any
    · obtain ⟨rfl, rfl, rfl⟩ := only i c e hi
      show ccs.size = if (0 : Nat) = 0 then μ.sz id else 0
      rw [if_pos rfl]; exact hR.cnt id _ _ ccs tt fr hm hw
  have ha0 : AV.relL (XO μ id) (.ptr 0 0 :: ys) args.toList:=by
    rw [hvs]
    refine AV.relL_cons_cons.2 ⟨?_,AV.flatL_rel ys _ hfy hys⟩
    simp only [AV.rel]; exact ⟨b,d,hm0,rfl⟩
  rcases hg _ _ _ e (XO μ id) w args hR0 ha0 with ⟨v,w',μ1,r,h1,q1,q2,q3,q4,cs',q5,q6,q7⟩ | ⟨q1,q2⟩
  · exact .inl ⟨v,w',μ,r,_,q1,AV.flat_rel r v q4 q2,DQ hR hm hb hgi q3 q5 q6,q7⟩
  · refine .inr ⟨q1, Calls.mono q2 fun e w' ⟨v, μ1, r, h1, p1, p2, p3, p4, cs', p5, p6, p7⟩ => ?_⟩
    exact ⟨v,μ,r,_,p1,AV.flat_rel r v p4 p2,DQ hR hm hb hgi p3 p5 p6,p7⟩
end Go.Am
namespace Go.Am
open Go
set_option linter.all false
end Go.Am
namespace Go.Am
open Go
set_option linter.all false
mutual
def AV.ren (ρ : Nat→Nat) : AV→AV
  | .ptr id off=>.ptr (ρ id) off
  | .slice id off len cap es ex=>.slice (ρ id) off len cap es ex
  | .map id=>.map (ρ id)
  | .yield id=>.yield (ρ id)
  | .func fn f c=>.func fn (AV.renL ρ f) (AV.renL ρ c)
  | .iface t v=>.iface t (AV.ren ρ v)
  | .agg cs=>.agg (AV.renL ρ cs)
  | .tuple cs=>.tuple (AV.renL ρ cs)
  | a=>a
def AV.renL (ρ : Nat→Nat) : List AV→List AV
  | []=>[]
  | a :: as=>AV.ren ρ a :: AV.renL ρ as
end
def Wo (μ : Mu) (ρ : Nat→Nat) (n : Nat) : Mu:=⟨fun i=>if i < n then μ (ρ i) else none,fun i=>μ.sz (ρ i)⟩
theorem ZP {μ : Mu} {ρ : Nat→Nat} {n i : Nat} (h : i < n) : Wo μ ρ n i = μ (ρ i):=if_pos h
theorem Wg {μ : Mu} {ρ : Nat→Nat} {n i : Nat} {p : Nat × Nat} (h : Wo μ ρ n i = some p) : i < n ∧ μ (ρ i) = some p:=by
  by_cases hi : i < n
  · exact ⟨hi,by rw [← ZP hi]; exact h⟩
  · have e : Wo μ ρ n i = none := if_neg hi
    rw [e] at h; cases h
mutual
theorem AV.rel_ren {μ : Mu} {ρ : Nat→Nat} {n : Nat} : ∀ (a : AV) (v : Value),a.under n→(a.ren ρ).rel μ v→a.rel (Wo μ ρ n) v
  | .junk,_,_,_=>by simp [AV.rel]
  | .bool _,_,_,h=>by simpa [AV.rel,AV.ren] using h
  | .int _ _,_,_,h=>by simpa [AV.rel,AV.ren] using h
  | .str _,_,_,h=>by simpa [AV.rel,AV.ren] using h
  | .nilp,_,_,h=>by simpa [AV.rel,AV.ren] using h
  | .nils,_,_,h=>by simpa [AV.rel,AV.ren] using h
  | .nilm,_,_,h=>by simpa [AV.rel,AV.ren] using h
  | .nilf,_,_,h=>by simpa [AV.rel,AV.ren] using h
  | .nili,_,_,h=>by simpa [AV.rel,AV.ren] using h
  | .glob _ _,_,_,h=>by simpa [AV.rel,AV.ren] using h
  | .ptr id off, v, hu, h => by
    simp only [AV.rel,AV.ren,AV.under] at h hu ⊢
    rw [ZP hu]; exact h
  | .slice id off len cap es ex, v, hu, h => by
    simp only [AV.rel,AV.ren,AV.under] at h hu ⊢
    rw [ZP hu]; exact h
  | .map id, v, hu, h => by
    simp only [AV.rel,AV.ren,AV.under] at h hu ⊢
    rw [ZP hu]; exact h
  | .yield id, v, hu, h => by
    simp only [AV.rel,AV.ren,AV.under] at h hu ⊢
    rw [ZP hu]; exact h
  | .func fn f c, v, hu, h => by
    simp only [AV.rel,AV.ren,AV.under] at h hu ⊢
    obtain ⟨f',c',h1,h2,h3⟩:=h
    exact ⟨f',c',h1,AV.relL_ren f _ hu.1 h2,AV.relL_ren c _ hu.2 h3⟩
  | .iface t x, v, hu, h => by
    simp only [AV.rel,AV.ren,AV.under] at h hu ⊢
    obtain ⟨y,h1,h2⟩:=h
    exact ⟨y,h1,AV.rel_ren x _ hu h2⟩
  | .agg cs, v, hu, h => by
    simp only [AV.rel,AV.ren,AV.under] at h hu ⊢
    obtain ⟨vs,h1,h2⟩:=h
    exact ⟨vs,h1,AV.relL_ren cs _ hu h2⟩
  | .tuple cs, v, hu, h => by
    simp only [AV.rel,AV.ren,AV.under] at h hu ⊢
    obtain ⟨vs,h1,h2⟩:=h
    exact ⟨vs,h1,AV.relL_ren cs _ hu h2⟩
theorem AV.relL_ren {μ : Mu} {ρ : Nat→Nat} {n : Nat} : ∀ (l : List AV) (vs : List Value),AV.underL n l→AV.relL μ (AV.renL ρ l) vs→AV.relL (Wo μ ρ n) l vs
  | [],_,_,h=>by simpa [AV.relL,AV.renL] using h
  | a :: as, vs, hu, h => by
    simp only [AV.relL,AV.renL,AV.underL] at h hu ⊢
    obtain ⟨v,vs',h1,h2,h3⟩:=h
    exact ⟨v,vs',h1,AV.rel_ren a _ hu.1 h2,AV.relL_ren as _ hu.2 h3⟩
end
structure Lent (h0 h : H) (ρ : Nat→Nat) : Prop where
  full : h0.base = h0.next
  rows : ∀ i,i < h0.next→∃ m t cs,h0.get i = .cells true t cs ∧ AV.flatL cs = true ∧ h.get (ρ i) = .cells m t cs
theorem BlkRelU.weak {μ : Mu} {w : World} {b d : Nat} {k : Blk} {u : Bool} (h : BlkRelU u μ w b d k) : BlkRelU false μ w b d k:=by
  cases u with
  | false=>exact h
  | true=>exact BlkRel.any (u:=false) h
mutual
theorem AV.ren_rel {μ : Mu} {ρ : Nat→Nat} {n : Nat} : ∀ (a : AV) (v : Value),a.under n→a.rel (Wo μ ρ n) v→(a.ren ρ).rel μ v
  | .junk,_,_,_=>by simp [AV.rel,AV.ren]
  | .bool _,_,_,h=>by simpa [AV.rel,AV.ren] using h
  | .int _ _,_,_,h=>by simpa [AV.rel,AV.ren] using h
  | .str _,_,_,h=>by simpa [AV.rel,AV.ren] using h
  | .nilp,_,_,h=>by simpa [AV.rel,AV.ren] using h
  | .nils,_,_,h=>by simpa [AV.rel,AV.ren] using h
  | .nilm,_,_,h=>by simpa [AV.rel,AV.ren] using h
  | .nilf,_,_,h=>by simpa [AV.rel,AV.ren] using h
  | .nili,_,_,h=>by simpa [AV.rel,AV.ren] using h
  | .glob _ _,_,_,h=>by simpa [AV.rel,AV.ren] using h
  | .ptr id off, v, hu, h => by
    simp only [AV.rel,AV.ren,AV.under] at h hu ⊢
    rw [ZP hu] at h; exact h
  | .slice id off len cap es ex, v, hu, h => by
    simp only [AV.rel,AV.ren,AV.under] at h hu ⊢
    rw [ZP hu] at h; exact h
  | .map id, v, hu, h => by
    simp only [AV.rel,AV.ren,AV.under] at h hu ⊢
    rw [ZP hu] at h; exact h
  | .yield id, v, hu, h => by
    simp only [AV.rel,AV.ren,AV.under] at h hu ⊢
    rw [ZP hu] at h; exact h
  | .func fn f c, v, hu, h => by
    simp only [AV.rel,AV.ren,AV.under] at h hu ⊢
    obtain ⟨f',c',h1,h2,h3⟩:=h
    exact ⟨f',c',h1,AV.renL_rel f _ hu.1 h2,AV.renL_rel c _ hu.2 h3⟩
  | .iface t x, v, hu, h => by
    simp only [AV.rel,AV.ren,AV.under] at h hu ⊢
    obtain ⟨y,h1,h2⟩:=h
    exact ⟨y,h1,AV.ren_rel x _ hu h2⟩
  | .agg cs, v, hu, h => by
    simp only [AV.rel,AV.ren,AV.under] at h hu ⊢
    obtain ⟨vs,h1,h2⟩:=h
    exact ⟨vs,h1,AV.renL_rel cs _ hu h2⟩
  | .tuple cs, v, hu, h => by
    simp only [AV.rel,AV.ren,AV.under] at h hu ⊢
    obtain ⟨vs,h1,h2⟩:=h
    exact ⟨vs,h1,AV.renL_rel cs _ hu h2⟩
theorem AV.renL_rel {μ : Mu} {ρ : Nat→Nat} {n : Nat} : ∀ (l : List AV) (vs : List Value),AV.underL n l→AV.relL (Wo μ ρ n) l vs→AV.relL μ (AV.renL ρ l) vs
  | [],_,_,h=>by simpa [AV.relL,AV.renL] using h
  | a :: as, vs, hu, h => by
    simp only [AV.relL,AV.renL,AV.underL] at h hu ⊢
    obtain ⟨v,vs',h1,h2,h3⟩:=h
    exact ⟨v,vs',h1,AV.ren_rel a _ hu.1 h2,AV.renL_rel as _ hu.2 h3⟩
end
def VM (μ μ1 : Mu) (n id : Nat) : Mu:=⟨fun i=>if i = n then μ1 id else μ i,fun i=>if i = n then μ1.sz id else μ.sz i⟩
theorem Y0 {μ μ1 : Mu} {n id : Nat} : VM μ μ1 n id n = μ1 id:=if_pos rfl
theorem Zz {μ μ1 : Mu} {n id i : Nat} (h : i ≠ n) : VM μ μ1 n id i = μ i ∧ (VM μ μ1 n id).sz i = μ.sz i:=⟨if_neg h,if_neg h⟩
theorem fresh_post {μ μ1 : Mu} {h h1 : H} {w w' : World} {id t : Nat} {m : Bool} {cs : List AV} (hR : Rel μ h w) (p : Post YF H0 w μ1 h1 w') (hg : h1.get id = .cells m t cs) (hf : AV.flatL cs = true) :
    Post μ h w (VM μ μ1 h.next id) (Qh h (.cells m t cs)) w':=by
  have hb : ∀ b,b < w.heap.size→w'.heap[b]? = w.heap[b]?:=fun b hlt=>p.frame.block b hlt fun id d _ h2=>by cases h2
  have hsz:=p.frame.size
  have new : ∀ b d,μ1 id = some (b,d)→w.heap.size ≤ b:=fun b d hm=>by
    rcases Nat.lt_or_ge b w.heap.size with hlt | hge
    · obtain ⟨_, _, _, h2, _⟩ := p.fresh id b d (Nat.zero_le _) hm hlt (by rw [hg]; rfl)
      cases h2
    · exact hge
  have old : ∀ i b d,μ i = some (b,d)→i ≠ h.next:=fun i b d hm=>by have:=(hR.dom i b d hm).1; omega
  have le : Le μ (VM μ μ1 h.next id):=fun i q hm=>by
    obtain ⟨e1,e2⟩:=Zz (μ:=μ) (μ1:=μ1) (id:=id) (old i q.1 q.2 hm)
    exact ⟨by rw [e1]; exact hm,e2⟩
  have bs : (Qh h (.cells m t cs)).base = h.base:=rfl
  have nx : (Qh h (.cells m t cs)).next = h.next + 1:=rfl
  have wf:=hR.wf.low
  refine ⟨fun i hi=>Zz (by omega),⟨⟨by rw [bs,nx]; omega⟩,fun i b d hm=>?_,fun i j b d e hi hj li lj hbj=>?_,fun i b d hm=>?_,fun i b d ccs tt fr hm hw=>?_,?_⟩,⟨p.frame.os,p.frame.tape,p.frame.output,hsz,fun b hlt _=>hb b hlt⟩,⟨by rw [nx]; omega,bs,fun i hi _=>?_,fun i hi=>?_,fun i hi hl=>?_⟩,fun i b d hi hm hlt hl=>?_⟩
  · by_cases e : i = h.next
    · subst e; rw [Y0] at hm
      exact ⟨by rw [nx]; omega,(p.rel.dom id b d hm).2⟩
    · rw [(Zz e).1] at hm
      have:=hR.dom i b d hm
      exact ⟨by rw [nx]; omega,by omega⟩
  · by_cases e1 : i = h.next <;> by_cases e2 : j = h.next
    · rw [e1,e2]
    · subst e1; rw [Y0] at hi; rw [(Zz e2).1] at hj
      have:=new b d hi; have:=(hR.dom j b e hj).2; omega
    · subst e2; rw [Y0] at hj; rw [(Zz e1).1] at hi
      have:=new b e hj; have:=(hR.dom i b d hi).2; omega
    · rw [(Zz e1).1] at hi; rw [(Zz e2).1] at hj
      rw [Ze,if_neg e1] at li; rw [Ze,if_neg e2] at lj
      exact hR.inj i j b d e hi hj li lj hbj
  · by_cases e : i = h.next
    · subst e; rw [Y0] at hm
      have hk:=p.rel.blk id b d hm
      have b0 : h1.base = 0:=p.grows.base
      rw [hg,(by rw [b0]; rfl : Nat.ble h1.base id = true)] at hk
      rw [Ze,if_pos rfl]
      exact (U8 hf hk).any
    · rw [(Zz e).1] at hm
      rw [Ze,if_neg e]
      exact (hR.blk i b d hm).mono le fun _=>hb b (hR.dom i b d hm).2
  · by_cases e : i = h.next
    · subst e; rw [Y0] at hm
      show ccs.size = if h.next = h.next then μ1.sz id else μ.sz h.next
      rw [if_pos rfl]; exact p.rel.cnt id b d ccs tt fr hm hw
    · rw [(Zz e).1] at hm
      rw [(Zz e).2]
      rw [hb b (hR.dom i b d hm).2] at hw
      exact hR.cnt i b d ccs tt fr hm hw
  · exact hR.glb.step bs (fun i hi=>by rw [Ze,if_neg (by omega)]) fun i hi=>(Zz (by omega)).1
  · rw [Ze,if_neg (by omega)]
  · rw [Ze,if_neg (by omega)]
  · rw [Ze,if_neg (by omega)] at hl; exact hl
  · by_cases e : i = h.next
    · subst e; rw [Y0] at hm
      have:=new b d hm; omega
    · rw [(Zz e).1] at hm
      have:=(hR.dom i b d hm).1; omega
def freshF (g : Fun) : Fun:=fun as h k=>AV.flatL as = true ∧ g as H0 fun r h1=>(r.flat = true ∧ k r h) ∨
  ∃ (id : Nat) (m : Bool) (t : Nat) (cs : List AV) (r0 : AV),r0.under 1 ∧ r = r0.ren (fun _=>id) ∧ h1.get id = .cells m t cs ∧ AV.flatL cs = true ∧ k (r0.ren fun _=>h.next) (Qh h (.cells m t cs))
theorem Qe.fresh {P : Program} {f : FuncId} {g : Fun} (hg : Qe P f g) : Qe P f (freshF g):=by
  intro as h Q ⟨hf,e⟩ μ w args hR ha
  have flat : ∀ (μ1 : Mu) (h1 : H) (w' : World) (r : AV) (v : Value),Post YF H0 w μ1 h1 w'→r.rel μ1 v→r.flat = true→r.rel μ v ∧ Post μ h w μ h w':=fun μ1 h1 w' r v p hv hu=>by
    have hb : ∀ b,b < w.heap.size→w'.heap[b]? = w.heap[b]?:=fun b hlt=>p.frame.block b hlt fun id d _ h2=>by cases h2
    exact ⟨AV.flat_rel r v hu hv,⟨fun _ _=>⟨rfl,rfl⟩,hR.same p.frame.size hb,⟨p.frame.os,p.frame.tape,p.frame.output,p.frame.size,fun b hlt _=>hb b hlt⟩,Grows.refl μ h,fun id b d hi hm=>absurd (hR.dom id b d hm).1 (by omega)⟩⟩
  have own : ∀ (μ1 : Mu) (h1 : H) (w' : World) (id : Nat) (m : Bool) (t : Nat) (cs : List AV) (r0 : AV) (v : Value),Post YF H0 w μ1 h1 w'→(r0.ren fun _=>id).rel μ1 v→r0.under 1→h1.get id = .cells m t cs→AV.flatL cs = true →
      (r0.ren fun _=>h.next).rel (VM μ μ1 h.next id) v ∧ Post μ h w (VM μ μ1 h.next id) (Qh h (.cells m t cs)) w':=fun μ1 h1 w' id m t cs r0 v p hv hu hg hc=>by
    refine ⟨AV.ren_rel (n:=1) r0 v hu (AV.rel_down (n:=1) (μ':=Wo μ1 (fun _=>id) 1) (fun i hi=>⟨?_,?_⟩) r0 v hu (AV.rel_ren (n:=1) r0 v hu hv)),fresh_post hR p hg hc⟩
    · rw [ZP hi,ZP hi,Y0]
    · show μ1.sz id = if h.next = h.next then μ1.sz id else μ.sz h.next
      rw [if_pos rfl]
  rcases hg as H0 _ e YF w args (rel0 w) (AV.flatL_rel as _ hf ha) with ⟨v,w',μ1,r,h1,q1,q2,q3,q4⟩ | ⟨q1,q2⟩
  · rcases q4 with ⟨q4, q5⟩ | ⟨id, m, t, cs, r0, hu, rfl, hg, hc, q5⟩
    · obtain ⟨r1, r2⟩ := flat μ1 h1 w' r v q3 q2 q4
      exact .inl ⟨v,w',μ,r,h,q1,r1,r2,q5⟩
    · obtain ⟨r1, r2⟩ := own μ1 h1 w' id m t cs r0 v q3 q2 hu hg hc
      exact .inl ⟨v,w',_,_,_,q1,r1,r2,q5⟩
  · refine .inr ⟨q1, Calls.mono q2 fun e w' ⟨v, μ1, r, h1, p1, p2, p3, p4⟩ => ?_⟩
    rcases p4 with ⟨p4,p5⟩ | ⟨id,m,t,cs,r0,hu,rfl,hg,hc,p5⟩
    · obtain ⟨r1, r2⟩ := flat μ1 h1 w' r v p3 p2 p4
      exact ⟨v,μ,r,h,p1,r1,r2,p5⟩
    · obtain ⟨r1, r2⟩ := own μ1 h1 w' id m t cs r0 v p3 p2 hu hg hc
      exact ⟨v,_,_,_,p1,r1,r2,p5⟩
end Go.Am
namespace Go.Am
open Go
set_option linter.all false
structure Ins (m r f : Nat) (es0 : List (AV × AV)) (es : List (AV × AV × Nat)) (clock : Nat) (seen : List Nat) (acc : List (AV × AV)) (hB h : H) : Prop where
  mp : h.get m = .amap es clock
  it : h.get r = .miter (some m) clock seen clock
  fp : h.get f = .smap acc
  shown : Z3 es0 es clock
  same : ∀ id,id ≠ m→id ≠ r→id ≠ f→h.get id = hB.get id
  base : h.base = hB.base
  next : h.next = r + 1
end Go.Am
namespace Go.Am
open Go
set_option linter.all false
structure Hid (m r : Nat) (h hd : H) : Prop where
  next : hd.next = h.next
  base : hd.base = h.base
  gm : hd.get m = .dead
  gr : hd.get r = .dead
  get : ∀ id,id ≠ m→id ≠ r→hd.get id = h.get id
structure Res (m r : Nat) (h h1 h2 : H) : Prop where
  next : h2.next = h1.next
  base : h2.base = h1.base
  gm : h2.get m = h.get m
  gr : h2.get r = h.get r
  get : ∀ id,id ≠ m→id ≠ r→h2.get id = h1.get id
theorem Hid.live {m r : Nat} {h hd : H} (i : Hid m r h hd) {id : Nat} (hl : (hd.get id).live = true) : hd.get id = h.get id ∧ id ≠ m ∧ id ≠ r:=by
  have h1 : id ≠ m:=fun e=>by subst e; rw [i.gm] at hl; cases hl
  have h2 : id ≠ r:=fun e=>by subst e; rw [i.gr] at hl; cases hl
  exact ⟨i.get id h1 h2,h1,h2⟩
theorem Hid.rel {μ : Mu} {m r : Nat} {h hd : H} {w : World} (i : Hid m r h hd) (hR : Rel μ h w) (hm : h.base ≤ m) (hr : h.base ≤ r) : Rel μ hd w:=by
  refine ⟨⟨by rw [i.next,i.base]; exact hR.wf.low⟩,fun id b d h1=>by rw [i.next]; exact hR.dom id b d h1,fun a b c d e h1 h2 l1 l2 hb=>?_,fun id b d h1=>?_,hR.cnt,hR.glb.step i.base (fun id hi=>i.get id (by omega) (by omega)) fun _ _=>rfl⟩
  · rw [(i.live l1).1] at l1
    rw [(i.live l2).1] at l2
    rw [i.base] at hb
    exact hR.inj a b c d e h1 h2 l1 l2 hb
  · by_cases e1 : id = m
    · subst e1; rw [i.gm]; trivial
    · by_cases e2 : id = r
      · subst e2; rw [i.gr]; trivial
      · rw [i.get id e1 e2,i.base]; exact hR.blk id b d h1
theorem Hid.post {μ μ1 : Mu} {m r : Nat} {h hd h1 h2 : H} {w w' : World} (i : Hid m r h hd) (hR : Rel μ h w) (hm : h.base ≤ m) (hr : h.base ≤ r) (hml : m < h.next) (hrl : r < h.next) (p : Post μ hd w μ1 h1 w') (R : Res m r h h1 h2) : Post μ h w μ1 h2 w' := by
  have b1 : h1.base = h.base:=p.grows.base.trans i.base
  have solo : ∀ x,x = m ∨ x = r→∀ b d,μ x = some (b,d)→(h.get x).live = true→∀ id d',μ id = some (b,d')→(hd.get id).live = true→False:=fun x hx b d hq hl id d' hq' hl'=>by
    obtain ⟨e1,e2,e3⟩:=i.live hl'
    rw [e1] at hl'
    have:=hR.inj id x b d' d hq' hq hl' hl (by rcases hx with rfl | rfl <;> assumption)
    subst this
    rcases hx with rfl | rfl
    · exact e2 rfl
    · exact e3 rfl
  have same : ∀ x,x = m ∨ x = r→∀ b d,μ x = some (b,d)→(h.get x).live = true→w'.heap[b]? = w.heap[b]?:=fun x hx b d hq hl=>p.frame.block b (hR.dom x b d hq).2 fun id d' _ hq'=>by
    cases hlv : (hd.get id).live with
    | false=>rfl
    | true=>exact (solo x hx b d hq hl id d' hq' hlv).elim
  have old : ∀ x,x < h.next→μ1 x = μ x:=fun x hx=>(p.ext x (by rw [i.next]; exact hx)).1
  have lt : ∀ x,x = m ∨ x = r→x < h.next:=fun x hx=>by rcases hx with rfl | rfl <;> assumption
  have bs : ∀ x,x = m ∨ x = r→h.base ≤ x:=fun x hx=>by rcases hx with rfl | rfl <;> assumption
  have gx : ∀ x,x = m ∨ x = r→h2.get x = h.get x:=fun x hx=>by rcases hx with rfl | rfl; exact R.gm; exact R.gr
  have no : ∀ x,¬ (x = m ∨ x = r)→h2.get x = h1.get x:=fun x hx=>R.get x (fun e=>hx (.inl e)) fun e=>hx (.inr e)
  have apart : ∀ x,x = m ∨ x = r→∀ b d,μ1 x = some (b,d)→(h2.get x).live = true→∀ j e,¬ (j = m ∨ j = r)→μ1 j = some (b,e)→(h2.get j).live = true→False:=fun x hx b d hq hl j e hj hq' hl'=>by
    rw [old x (lt x hx)] at hq
    rw [gx x hx] at hl
    rw [no j hj] at hl'
    by_cases hjn : j < h.next
    · rw [old j hjn] at hq'
      exact solo x hx b d hq hl j e hq' (p.grows.dead j (by rw [i.next]; exact hjn) hl')
    · obtain ⟨id0, d0, _, q1, q2⟩ := p.fresh j b e (by rw [i.next]; omega) hq' (hR.dom x b d hq).2 hl'
      exact solo x hx b d hq hl id0 d0 q1 q2
  have le : Le μ μ1:=hR.ext_le (by have:=p.ext; rw [i.next] at this; exact this)
  refine ⟨by have:=p.ext; rw [i.next] at this; exact this,⟨⟨by rw [R.next,R.base]; exact p.rel.wf.low⟩,fun id b d hq=>by rw [R.next]; exact p.rel.dom id b d hq,fun a j b d e ha hj la lj hbj=>?_,fun id b d hq=>?_,p.rel.cnt,p.rel.glb.step R.base (fun id hi=>R.get id (by omega) (by omega)) fun _ _=>rfl⟩,
    ⟨p.frame.os,p.frame.tape,p.frame.output,p.frame.size,fun b hb hn=>p.frame.block b hb fun id d hi hq=>?_⟩,
    ⟨by rw [R.next,← i.next]; exact p.grows.next,R.base.trans b1,fun id hi hq=>?_,fun id hi=>?_,fun id hi hl=>?_⟩,fun id b d hi hq hb hl=>?_⟩
  · by_cases ca : a = m ∨ a = r <;> by_cases cj : j = m ∨ j = r
    · rw [old a (lt a ca)] at ha
      rw [old j (lt j cj)] at hj
      rw [gx a ca] at la
      rw [gx j cj] at lj
      exact hR.inj a j b d e ha hj la lj (bs j cj)
    · exact (apart a ca b d ha la j e cj hj lj).elim
    · exact (apart j cj b e hj lj a d ca ha la).elim
    · rw [no a ca] at la
      rw [no j cj] at lj
      rw [R.base] at hbj
      exact p.rel.inj a j b d e ha hj la lj hbj
  · by_cases c : id = m ∨ id = r
    · rw [gx id c, R.base, b1]
      have hq0:=hq
      rw [old id (lt id c)] at hq0
      cases hl : (h.get id).live with
      | false =>
        have : h.get id = .dead:=by
          revert hl; cases h.get id <;> first | (intro _; rfl) | (intro hl; cases hl)
        rw [this]; trivial
      | true=>exact (hR.blk id b d hq0).mono le fun _=>same id c b d hq0 hl
    · rw [no id c,R.base]; exact p.rel.blk id b d hq
  · cases hlv : (hd.get id).live with
    | false=>rfl
    | true =>
      obtain ⟨e1,_,_⟩:=i.live hlv
      have:=hn id d (by rw [← i.base]; exact hi) hq
      rw [← e1,hlv] at this; cases this
  · by_cases c : id = m ∨ id = r
    · exact gx id c
    · rw [no id c, p.grows.keep id (by rw [i.next]; exact hi) hq]
      exact i.get id (fun e=>c (.inl e)) fun e=>c (.inr e)
  · have c : ¬ (id = m ∨ id = r) := by rintro (rfl | rfl) <;> omega
    rw [no id c,p.grows.low id (by rw [i.base]; exact hi)]
    exact i.get id (fun e=>c (.inl e)) fun e=>c (.inr e)
  · by_cases c : id = m ∨ id = r
    · rw [gx id c] at hl; exact hl
    · rw [no id c] at hl
      have hlv:=p.grows.dead id (by rw [i.next]; exact hi) hl
      rw [← (i.live hlv).1]; exact hlv
  · have c : ¬ (id = m ∨ id = r) := by rintro (rfl | rfl) <;> omega
    rw [no id c] at hl
    obtain ⟨id0,d0,q1,q2,q3⟩:=p.fresh id b d (by rw [i.next]; exact hi) hq hb hl
    exact ⟨id0,d0,by rw [← i.base]; exact q1,q2,by rw [← (i.live q3).1]; exact q3⟩
end Go.Am
namespace Go.Am
open Go
set_option linter.all false
def up0 (g : Fun) : Fun:=fun as h k=>∃ K,g as h K ∧ ∀ r h',K r h'→k r h'
theorem Qe.up0 {P : Program} {f : FuncId} {g : Fun} (hg : Qe P f g) : Qe P f (up0 g):=hg.up fun _ _ _ e=>e
def GB (v : AV) (h : H) (k : Nat→List (AV × AV)→Prop) : Prop :=
  match v with
  | .map id => match h.get id with
    | .smap es=>k id es
    | _=>False
  | _=>False
theorem GA {v : AV} {h : H} {k : Nat→List (AV × AV)→Prop} (e : GB v h k) : ∃ id es,v = .map id ∧ h.get id = .smap es ∧ k id es:=by
  unfold GB at e
  split at e
  · split at e
    · exact ⟨_,_,rfl,by assumption,e⟩
    · exact e.elim
  · exact e.elim
structure But (m r : Nat) (h h' : H) : Prop where
  next : h'.next = h.next
  base : h'.base = h.base
  get : ∀ id,id ≠ m→id ≠ r→h'.get id = h.get id
theorem But.push {m r : Nat} {h h' : H} (b : But m r h h') {k : Blk} {n : Nat} {g : H} (hw : h.Wf) (hm : m < h.next) (hr : r < h.next) (e : h.push k = some (n,g)) : ∃ g',h'.push k = some (n,g') ∧ But m r g g' ∧ g.Wf ∧ g'.get m = h'.get m ∧ g'.get r = h'.get r ∧ m < g.next ∧ r < g.next ∧ g.base = h.base:=by
  have hw' : h'.Wf:=⟨by rw [b.next,b.base]; exact hw.low⟩
  obtain ⟨g',p⟩:=Y6 h' k
  obtain ⟨e1,e2,e3,e4,e5⟩:=H.push_some e hw
  obtain ⟨_,f2,f3,f4,f5⟩:=H.push_some p hw'
  subst e1
  rw [b.next] at p f2 f5
  refine ⟨g',p,⟨by rw [f2,e2],by rw [f3,e3,b.base],fun id h1 h2=>?_⟩,e4,?_,?_,by omega,by omega,e3⟩
  · rw [f5, e5]; split
    · rfl
    · exact b.get id h1 h2
  · rw [f5,if_neg (by omega)]
  · rw [f5,if_neg (by omega)]
theorem Iter.last {m r : Nat} {es0 : List (AV × AV)} {es : List (AV × AV × Nat)} {clock : Nat} {seen : List Nat} {h hb : H} (i : Iter m r es0 es clock seen h) (hall : ∀ e ∈ es,e.2.2 ∈ seen) (hm : m < h.next) (hmb : h.base ≤ m) (hr : r < h.next) (hrb : h.base ≤ r)
    (b : But m r hb h) (gm : hb.get m = .smap es0) (gr : hb.get r = .dead) {k : AV→H→Prop} (q : k (.tuple [.bool false]) hb) : YV (.ptr r 0) h k:=by
  refine i.nextA (fun e he hn=>absurd (hall e he) hn) fun _=>?_
  obtain ⟨h1,p1⟩:=ZB (h:=h) (i:=m) (.smap es0) hm hmb
  obtain ⟨_,_,n1,b1,g1⟩:=Q1 p1
  obtain ⟨h2,p2⟩:=ZB (h:=h1) (i:=r) .dead (by omega) (by omega)
  obtain ⟨_,_,n2,b2,g2⟩:=Q1 p2
  refine ⟨h1,h2,hb,p1,p2,⟨by rw [n2,n1,b.next],by rw [b2,b1,b.base],fun id=>?_⟩,q⟩
  rw [g2,g1]
  by_cases e1 : id = r
  · subst e1; rw [if_pos rfl]; exact gr
  · rw [if_neg e1]
    by_cases e2 : id = m
    · subst e2; rw [if_pos rfl]; exact gm
    · rw [if_neg e2]; exact (b.get id e2 e1).symm
theorem Iter.first {m r : Nat} {a b : AV} {s clock : Nat} {h hb : H} (i : Iter m r [(a,b)] [(a,b,s)] clock [] h) (hr : r < h.next) (hrb : h.base ≤ r) (bt : But m r hb h) {k : AV→H→Prop}
    (q : ∀ h',Iter m r [(a,b)] [(a,b,s)] clock [s] h'→ZV (.ptr r 0) h' = some (.tuple [a,b])→But m r hb h'→h'.next = h.next→h'.base = h.base→k (.tuple [.bool true,a,b]) h') : YV (.ptr r 0) h k:=by
  refine i.nextA (fun e he _=>?_) (fun hall=>by have:=hall (a,b,s) List.mem_cons_self; cases this)
  obtain rfl : e = (a,b,s):=by simpa using he
  obtain ⟨h',p⟩:=ZB (h:=h) (i:=r) (.miter (some m) clock ([] ++ [s]) clock) hr hrb
  obtain ⟨_,_,n1,b1,g1⟩:=Q1 p
  have i' : Iter m r [(a,b)] [(a,b,s)] clock ([] ++ [s]) h':=i.step p
  exact ⟨h',p,q h' i' (i'.entry (e:=(a,b,s)) List.mem_cons_self) ⟨by rw [n1,bt.next],by rw [b1,bt.base],fun id e1 e2=>by rw [g1,if_neg e2]; exact bt.get id e1 e2⟩ n1 b1⟩
end Go.Am
namespace Go.Am
open Go
set_option linter.all false
structure Told (m r : Nat) (es0 : List (AV × AV)) (hc : H) : Prop where
  gm : hc.get m = .smap es0
  gr : hc.get r = .dead
  mn : m < hc.next
  mb : hc.base ≤ m
  rn : r < hc.next
  rb : hc.base ≤ r
theorem But.put {m r : Nat} {h h' h2 : H} {k : Blk} (b : But m r h h') (p : h'.put r k = some h2) : But m r h h2:=by
  obtain ⟨_,_,n1,b1,g1⟩:=Q1 p
  exact ⟨by rw [n1,b.next],by rw [b1,b.base],fun id e1 e2=>by rw [g1,if_neg e2]; exact b.get id e1 e2⟩
end Go.Am
namespace Go.Am
open Go
set_option linter.all false
def cutS : AV→AV
  | .slice id off len cap es ex=>.slice id off len len es false
  | a=>a
theorem cutS_rel {μ : Mu} {a : AV} {v : Value} (h : AV.rel μ a v) : AV.rel μ (cutS a) v:=by
  cases a <;> first | exact h | skip
  simp only [cutS,AV.rel] at h ⊢
  obtain ⟨b,d,c,o,a,h1,h2,h3,h4,h5,h6,h7,h8,h9⟩:=h
  exact ⟨b,d,c,o,a,h1,h2,h3,fun hl=>h4 (by omega),by omega,fun e=>(by cases e),Nat.le_refl _,h8,h9⟩
structure Weak (b : Nat) (h1 h2 : H) : Prop where
  next : h2.next = h1.next
  base : h2.base = h1.base
  get : ∀ id,id ≠ b→h2.get id = h1.get id
  at_ : ∃ m t cs cs',h1.get b = .cells m t cs ∧ h2.get b = .cells m t cs' ∧ ∀ (i : Nat) (a' : AV),cs'[i]? = some a'→∃ a,cs[i]? = some a ∧ (a' = a ∨ a' = cutS a)
theorem Weak.live {b : Nat} {h1 h2 : H} (W : Weak b h1 h2) {id : Nat} (hl : (h2.get id).live = true) : (h1.get id).live = true:=by
  by_cases e : id = b
  · subst e
    obtain ⟨m,t,cs,cs',e1,e2,_⟩:=W.at_
    rw [e1]; rfl
  · rw [← W.get id e]; exact hl
theorem Weak.post {μ μ1 : Mu} {b : Nat} {h h1 h2 : H} {w w' : World} (W : Weak b h1 h2) (p : Post μ h w μ1 h1 w') (hb : h.base ≤ b) (hm : ∃ q,μ b = some q) : Post μ h w μ1 h2 w':=by
  have bs : h1.base = h.base:=p.grows.base
  refine ⟨p.ext,⟨⟨by rw [W.next,W.base]; exact p.rel.wf.low⟩,fun id x d hq=>by rw [W.next]; exact p.rel.dom id x d hq,fun i j x d e hi hj li lj hbj=>p.rel.inj i j x d e hi hj (W.live li) (W.live lj) (by rw [← W.base]; exact hbj),fun id x d hq=>?_,p.rel.cnt,p.rel.glb.step W.base (fun id hi=>W.get id (by omega)) fun _ _=>rfl⟩,p.frame,
    ⟨by rw [W.next]; exact p.grows.next,W.base.trans bs,fun id hi hq=>?_,fun id hi=>?_,fun id hi hl=>p.grows.dead id hi (W.live hl)⟩,fun id x d hi hq hx hl=>p.fresh id x d hi hq hx (W.live hl)⟩
  · by_cases e : id = b
    · subst e
      obtain ⟨m,t,cs,cs',e1,e2,e3⟩:=W.at_
      have hk:=p.rel.blk id x d hq
      rw [e1] at hk
      rw [e2,W.base]
      obtain ⟨ccs,fr,r1,r2,r3,r4⟩:=hk
      refine ⟨ccs,fr,r1,fun i a' ha=>?_,r3,r4⟩
      obtain ⟨a,ha1,ha2⟩:=e3 i a' ha
      obtain ⟨v,hv,hr⟩:=r2 i a ha1
      rcases ha2 with rfl | rfl
      · exact ⟨v,hv,hr⟩
      · exact ⟨v,hv,cutS_rel hr⟩
    · rw [W.get id e,W.base]; exact p.rel.blk id x d hq
  · have : id ≠ b := fun e => by subst e; obtain ⟨q, e⟩ := hm; rw [e] at hq; cases hq
    rw [W.get id this]; exact p.grows.keep id hi hq
  · rw [W.get id (by omega)]; exact p.grows.low id hi
def weakF (g : Fun) : Fun:=fun as h k=>match as with
  | .ptr b _ :: _=>h.base ≤ b ∧ g as h fun r h1=>∃ h2,Weak b h1 h2 ∧ k r h2
  | _=>False
theorem Qe.weak {P : Program} {f : FuncId} {g : Fun} (hg : Qe P f g) : Qe P f (weakF g):=by
  intro as h Q e μ w args hR ha
  unfold weakF at e
  split at e
  · rename_i b o r
    obtain ⟨hb,e⟩:=e
    have hm : ∃ q,μ b = some q:=by
      obtain ⟨v,_,_,hx,_⟩:=AV.relL_cons.1 ha
      simp only [AV.rel] at hx
      obtain ⟨x,d,e1,_⟩:=hx
      exact ⟨_,e1⟩
    rcases hg _ h _ e μ w args hR ha with ⟨v,w',μ1,x,h1,q1,q2,q3,h2,q4,q5⟩ | ⟨q1,q2⟩
    · exact .inl ⟨v,w',μ1,x,h2,q1,q2,q4.post q3 hb hm,q5⟩
    · exact .inr ⟨q1,Calls.mono q2 fun e w' ⟨v,μ1,x,h1,p1,p2,p3,h2,p4,p5⟩=>⟨v,μ1,x,h2,p1,p2,p4.post p3 hb hm,p5⟩⟩
  · exact e.elim
end Go.Am
namespace Go.Am
open Go
set_option linter.all false
end Go.Am
namespace Go.Am
open Go
set_option linter.all false
def mnzF (e : Nat) : Fun:=fun l h k=>match l with
  | [.int .i64 n]=>Int.rec (motive:=fun _=>Prop) (fun n=>ck (Nat.ble n 1099511627776) (op2 (Wk (.bytes e 0 false ⟨0,0⟩) n 1 h) k)) (fun _=>False) n
  | _=>False
theorem makeNoZero_ok {P : Program} {f : FuncId} {fn : Func} {t e : TypeId} (hf : P.funcs[f]? = some fn) (hn : (fn.name == "runtime.NumGoroutine") = false) (hb : fn.body.isNone = true) (h1 : Extern.findNext fn = none) (h2 : Extern.find fn = some (Extern.BytealgMakeNoZero.makeNoZero fn.params #[t])) (ht : P.underlying t = some (.slice e)) : Qe P f (mnzF e) := by
  intro l h Q q μ w args hR ha
  left
  unfold mnzF at q
  split at q
  · rename_i n
    obtain ⟨v,_,hv,hx,hn'⟩:=AV.relL_cons.1 ha
    rw [AV.relL_nil] at hn'; subst hn'
    have : args = #[v]:=Array.toList_inj.1 hv
    subst this
    simp only [AV.rel] at hx
    subst hx
    cases n with
    | negSucc m=>exact q.elim
    | ofNat n =>
      have q : ck (Nat.ble n 1099511627776) (op2 (Wk (.bytes e 0 false ⟨0,0⟩) n 1 h) Q):=q
      rw [Qz,Qv] at q
      obtain ⟨hn2,q⟩:=q
      obtain ⟨r,h',hs,hK⟩:=WB q
      obtain ⟨cs,hrun,hle,_⟩:=Go.Lib.run_makeNoZero (P:=P) w fn.params t e ht n (by omega)
      obtain ⟨μ',q1,q2⟩:=Vj (cap:=cs.size) (w':=w.drew.drew.alloc (.cells cs e)) hR hs rfl rfl rfl rfl ⟨cs,(0,0),[],Array.getElem?_push_size,rfl,fun i x hi=>by simp at hi,fun _ o _ _ hc=>by omega,fun _=>.inl rfl⟩ hle (by omega)
      · refine ⟨_, _, μ', r, h', ?_, q1, q2, hK⟩
        rw [beq_eq_false_iff_ne] at hn
        rw [Option.isNone_iff_eq_none] at hb
        obtain ⟨va,hva⟩ : ∃ va,va = Value.int .i64 (Int.ofNat n):=⟨_,rfl⟩
        have hrun' : (Extern.BytealgMakeNoZero.makeNoZero fn.params #[t] #[va]).run P w = .ok (.slice (some ⟨w.heap.size,0,none⟩) n cs.size) (w.drew.drew.alloc (.cells cs e)):=by rw [hva]; exact hrun
        rw [← hva]
        clear hva
        simp [callFunc,hf,hn,hb,h1,h2,hrun']
  · exact q.elim
end Go.Am
namespace Go.Am
open Go
set_option linter.all false
structure Part (h0 h : H) : Prop where
  full : h0.base = h0.next
  le : h0.next ≤ h.base
  get : ∀ id,id < h0.next→h0.get id = .dead ∨ ∃ t cs,h0.get id = .cells false t cs ∧ AV.flatL cs = true ∧ h.get id = .cells false t cs
end Go.Am
namespace Go.Am
open Go
set_option linter.all false
mutual
def eqV : AV→AV→Bool
  | .bool a,.bool b=>Bool.rec (Bool.not b) b a
  | .int k a,.int k' b=>Bool.and (decide (k = k')) (eqI a b)
  | .str a,.str b=>Str.beq a b
  | .nilp,.nilp=>true
  | .ptr a b,.ptr c d=>Bool.and (Nat.beq a c) (Nat.beq b d)
  | .nils,.nils=>true
  | .slice a b c d e f,.slice a' b' c' d' e' f'=>Bool.and (Nat.beq a a') (Bool.and (Nat.beq b b') (Bool.and (Nat.beq c c') (Bool.and (Nat.beq d d') (Bool.and (Nat.beq e e') (Bool.rec (Bool.not f') f' f)))))
  | .nilm,.nilm=>true
  | .map a,.map b=>Nat.beq a b
  | .nilf,.nilf=>true
  | .nili,.nili=>true
  | .func (.func f) as cs,.func (.func g) bs ds=>Bool.and (Nat.beq f g) (Bool.and (eqVs as bs) (eqVs cs ds))
  | .iface t a,.iface u b=>Bool.and (Nat.beq t u) (eqV a b)
  | .glob a b,.glob c d=>Bool.and (Nat.beq a c) (Nat.beq b d)
  | .agg as,.agg bs=>eqVs as bs
  | .tuple as,.tuple bs=>eqVs as bs
  | .junk,.junk=>true
  | _,_=>false
def eqVs : List AV→List AV→Bool
  | [],[]=>true
  | a :: as,b :: bs=>Bool.and (eqV a b) (eqVs as bs)
  | _,_=>false
end
def eqPs : List (AV × AV)→List (AV × AV)→Bool
  | [],[]=>true
  | a :: as,b :: bs=>Bool.and (eqV a.1 b.1) (Bool.and (eqV a.2 b.2) (eqPs as bs))
  | _,_=>false
def Qca : Blk→Bool
  | .dead=>true
  | _=>false
def eqB : Blk→Blk→Bool
  | .dead,.dead=>true
  | .cells m t cs,.cells m' t' cs'=>Bool.and (Bool.rec (Bool.not m') m' m) (Bool.and (Nat.beq t t') (eqVs cs cs'))
  | .bytes t f s x,.bytes t' f' s' x'=>Bool.and (Nat.beq t t') (Bool.and (Nat.beq f f') (Bool.and (Bool.rec (Bool.not s') s' s) (Str.beq x x')))
  | .smap es,.smap es'=>eqPs es es'
  | .defd a,.defd b=>Bool.rec (Bool.not b) b a
  | _,_=>false
def Qad (n : Nat) : Tr→Tr→Nat→Nat→Bool
  | .lf,.lf,_,_=>true
  | .nd v l r,.lf,a,b=>Bool.and (Bool.rec (Qca v) true (Nat.ble n a)) (Bool.and (Qad n l .lf (Nat.add a b) (Nat.mul 2 b)) (Qad n r .lf (Nat.add a (Nat.mul 2 b)) (Nat.mul 2 b)))
  | .nd v l r,.nd v' l' r',a,b=>Bool.and (Bool.rec (Bool.and (Qca v') (Nat.ble n a)) true (eqB v v')) (Bool.and (Qad n l l' (Nat.add a b) (Nat.mul 2 b)) (Qad n r r' (Nat.add a (Nat.mul 2 b)) (Nat.mul 2 b)))
  | _,_,_,_=>false
def deadOk (n : Nat) (h1 h2 : H) : Bool:=Bool.and (Nat.beq h2.next h1.next) (Bool.and (Nat.beq h2.base h1.base) (Qad n h1.mem h2.mem 0 1))
structure Memo where
  A : List AV
  Hi : H
  V : AV
  Ho : H
structure MemoOk (g : Fun) (m : Memo) : Prop where
  ok : ∀ k : AV→H→Prop,k m.V m.Ho→g m.A m.Hi fun r h1=>ck (eqV r m.V) (ck (deadOk m.Hi.next h1 m.Ho) (k m.V m.Ho))
end Go.Am
