import Derived.Test.YtfgdelkdmdmfgaaDoorAmL6
import Derived.ProofKit
import Derived.WideShapes
import Derived.OpenShut
import Derived.LaidLaws
import Derived.Lib.MakeNoZero
noncomputable section
set_option linter.all false
namespace Go.Am
open Go
def zrel:AV→Value→Bool
  | .bool a,.bool b=>a == b
  | .int k n,.int k' m=>decide (k=k') && n == m
  | .str s,.string b=>b.data.toList.isEmpty && s.len == 0 && s.val == 0
  | .nilp,.pointer none=>true
  | .nils,.slice none 0 0=>true
  | .nilm,.map none=>true
  | .nilf,.nilFunc=>true
  | .nili,.nilIface=>true
  | .junk,_=>true
  | _,_=>false
def QcE:List AV→List Value→Bool
  | [],[]=>true
  | a::as,v::vs=>zrel a v && QcE as vs
  | _,_=>false
theorem zrel_ok {μ:Mu} {a:AV} {v:Value} (h:zrel a v=true):a.rel μ v:=by
  unfold zrel at h
  split at h <;> simp only [AV.rel,Bool.and_eq_true,beq_iff_eq,decide_eq_true_eq,Bool.false_eq_true] at h ⊢
  · rw [h]
  · rw [h.1,h.2]
  · rename_i s b
    refine ⟨b,rfl,?_⟩
    obtain ⟨⟨h1,h2⟩,h3⟩:=h
    rw [List.isEmpty_iff] at h1
    rw [h1]
    cases s;simp only at h2 h3;subst h2 h3;rfl
theorem QaZ {μ:Mu}:∀ {as:List AV} {vs:List Value},QcE as vs=true→AV.relL μ as vs
  | [],[],_=>AV.relL_nil.2 rfl
  | a :: as, v :: vs, h => by
    simp only [QcE,Bool.and_eq_true] at h
    exact AV.relL_cons.2 ⟨v,vs,rfl,zrel_ok h.1,QaZ h.2⟩
  | [],_::_,h=>by cases h
  | _::_,[],h=>by cases h
def kdB:Kd→TypeDesc→Bool
  | .bool,.bool=>true
  | .int k,.int k'=>decide (k=k')
  | .str,.string=>true
  | .unsafe_,.unsafePointer=>true
  | .ptr e,.pointer e'=>Nat.beq e e'
  | .slice e,.slice e'=>Nat.beq e e'
  | .arr n e,.array n' e'=>Nat.beq n n' && Nat.beq e e'
  | .struct fs,.struct fields=>decide (fs=fields.toList.map (fun f=>(f.offset,f.type)))
  | .map k e,.map k' e'=>Nat.beq k k' && Nat.beq e e'
  | .func,.func _ _ _=>true
  | .iface,.interface _=>true
  | _,_=>false
theorem kdB_ok {k:Kd} {d:TypeDesc} (h:kdB k d=true):Jr k d:=by
  unfold kdB at h
  split at h <;> simp only [Bool.and_eq_true,Nat.beq_eq,decide_eq_true_eq,Bool.false_eq_true] at h
  · rfl
  · rw [h];rfl
  · rfl
  · rfl
  · rw [h];rfl
  · rw [h];rfl
  · rw [h.1,h.2];rfl
  · exact ⟨_,rfl,h⟩
  · rw [h.1,h.2];rfl
  · exact ⟨_,_,_,rfl⟩
  · exact ⟨_,rfl⟩
def aggB:Value→Bool
  | .agg _=>true
  | _=>false
def QdC (ti : TI) (i : TypeInfo) : Bool :=
  i.size == ti.size && i.bytes == ti.bytes && (!ti.kd.simple || i.comparable) && (match i.zero with
    | some z=>QcE ti.zero z.cells.toList && (ti.kd.agg == aggB z)
    | none=>false)
def chkEq (P : Program) (t : Nat) (d : TypeDesc) : Bool :=
  !(P.eqGuardType P.depth t) && !(P.stoodInHeld t) && (match d with
    | .struct fs=>fs.toList.all fun f=>f.name != "_"
    | _=>true)
def Qfc (P:Program) (t:Nat) (ti:TI):Bool :=
  match P.info? t,P.underlying t with
  | some i,some d=>QdC ti i && kdB ti.kd d && (!ti.eqp || chkEq P t d)
  | _,_=>false
theorem chkTI_ok {P : Program} {t : Nat} {ti : TI} (h : Qfc P t ti = true) : Qfn P t ti := by
  unfold Qfc at h
  split at h
  · rename_i i d hi hd
    simp only [Bool.and_eq_true] at h
    obtain ⟨⟨h1,h2⟩,h3⟩:=h
    unfold QdC at h1
    simp only [Bool.and_eq_true,beq_iff_eq] at h1
    obtain ⟨⟨⟨s1,s2⟩,s4⟩,s3⟩:=h1
    split at s3
    · rename_i z hz
      simp only [Bool.and_eq_true,beq_iff_eq] at s3
      refine ⟨⟨i,z,hi,s1,s2,hz,QaZ s3.1,fun ha=>?_⟩,⟨d,hd,kdB_ok h2⟩,fun ha i' z' hi' hz'=>?_,fun hs=>⟨i,hi,by rw [hs] at s4;simpa using s4⟩,fun he=>?_⟩
      · have q := s3.2.symm; rw [ha] at q
        cases z <;> simp only [aggB,Bool.false_eq_true] at q
        exact ⟨_,rfl⟩
      · rw [hi] at hi'; injection hi' with hi'; subst hi'
        rw [hz] at hz';injection hz' with hz';subst hz'
        have q:=s3.2.symm;rw [ha] at q
        cases z <;> first | rfl | (simp only [aggB,Bool.true_eq_false] at q)
      · rw [he] at h3
        simp only [Bool.not_true,Bool.false_or] at h3
        unfold chkEq at h3
        simp only [Bool.and_eq_true,Bool.not_eq_true'] at h3
        refine ⟨h3.1.1,h3.1.2,fun fs hfs f hf=>?_⟩
        rw [hd] at hfs;injection hfs with hfs;subst hfs
        have:=h3.2
        simp only [List.all_eq_true,bne_iff_ne,ne_eq] at this
        exact this f (by simpa using hf)
    · cases s3
  · cases h
def Gv (P:Program):Nat→List TI→Bool
  | _,[]=>true
  | k,ti::r=>(!ti.kd.known || Qfc P k ti) && Gv P (k+1) r
theorem QdB {P:Program}:∀ (L:List TI) (k t:Nat),Gv P k L=true→(Wi ⟨.other,0,0,[],false⟩ L t).kd.known=true→Qfn P (k+t) (Wi ⟨.other,0,0,[],false⟩ L t)
  | [],k,t,_,h=>by rw [Z5] at h;simp [Kd.known] at h
  | ti :: r, k, 0, h, hk => by
    simp only [Gv,Bool.and_eq_true,Bool.or_eq_true,Bool.not_eq_true'] at h
    rcases h.1 with q | q
    · have : ti.kd.known = true := hk
      rw [this] at q;cases q
    · exact chkTI_ok q
  | ti :: r, k, t + 1, h, hk => by
    simp only [Gv,Bool.and_eq_true] at h
    have:=QdB r (k+1) t h.2 hk
    rwa [show k+1+t=k+(t+1) from by omega] at this
def Qd5 (LL:List (List TI)):Ty:=fun t=>Wi ⟨.other,0,0,[],false⟩ (Wi [] LL (Nat.div t 32)) (Nat.mod t 32)
def ChOk (P:Program) (k:Nat) (LL:List (List TI)):Prop:=∀ (i:Nat) (c:List TI),LL[i]?=some c→Gv P (32 * (k+i)) c=true
theorem ch_nil {P:Program} {k:Nat}:ChOk P k []:=fun i c h=>by cases h
theorem JD {P:Program} {k:Nat} {c:List TI} {LL:List (List TI)} (h:Gv P (Nat.mul 32 k) c=true) (r:ChOk P (k+1) LL):ChOk P k (c::LL):=fun i d hd=>by
  cases i with
  | zero=>injection hd with hd;subst hd;exact h
  | succ i =>
    have:=r i d hd
    rwa [show k+1+i=k+(i+1) from by omega] at this
theorem tyOk_of2 {P:Program} {LL:List (List TI)} (h:ChOk P 0 LL):YN P (Qd5 LL):=fun t ht=>by
  have e:Qd5 LL t=Wi ⟨.other,0,0,[],false⟩ (Wi [] LL (t / 32)) (t % 32):=rfl
  rw [e] at ht ⊢
  cases hc:LL[t / 32]? with
  | none =>
    exfalso
    have:Wi [] LL (t / 32)=[]:=by rw [Z5,List.getD_eq_getElem?_getD,hc];rfl
    rw [this,Z5] at ht
    simp [Kd.known] at ht
  | some c =>
    have hl:Wi [] LL (t / 32)=c:=by rw [Z5,List.getD_eq_getElem?_getD,hc];rfl
    rw [hl] at ht ⊢
    have:=QdB c _ (t % 32) (h _ c hc) ht
    rwa [show 32 * (0+t / 32)+t % 32=t from by omega] at this
end Go.Am
namespace Go.Am
open Go
def fls:Fun:=fun _ _ _=>False
def tab:List (Nat × Fun)→Nat→Fun
  | [],_=>fls
  | p::r,f=>Bool.rec (motive:=fun _=>Fun) (tab r f) p.2 (Nat.beq f p.1)
def Wh:Code→Ks→List AV→List Dfr→H→Prop:=fun _ _ _ _ _=>False
def gam (J:Qh) (l:List (Nat × Fun)):Gam:=⟨J,tab l,fun _=>fls,fun _=>fls,Wh⟩
def UR (J:Qh) (l li:List (Nat × Fun)) (cd:Code→Ks→List AV→List Dfr→H→Prop):Gam:=⟨J,tab l,tab li,fun _=>fls,cd⟩
def Qaa (ok:Nat→Fun→Prop) (l:List (Nat × Fun)):Prop:=∀ f,ok f (tab l f)
theorem Ql {ok:Nat→Fun→Prop} (h:∀ f,ok f fls):Qaa ok []:=h
theorem Qc {ok:Nat→Fun→Prop} {f:Nat} {g:Fun} {l:List (Nat × Fun)} (h:ok f g) (hl:Qaa ok l):Qaa ok ((f,g)::l):=fun f'=>by
  show ok f' (Bool.rec (motive:=fun _=>Fun) (tab l f') g (Nat.beq f' f))
  cases e:Nat.beq f' f with
  | true=>rw [Nat.beq_eq] at e;subst e;exact h
  | false=>exact hl f'
theorem Qn {P:Program} (f:Nat):Qt P f fls:=fun _ _ _ e=>e.elim
theorem NL {P:Program} (f:Nat):ItOk P f fls:=fun _ _ _ e=>e.elim
theorem Qdv {P:Program} (f:Nat):Qfr P f fls:=fun _ _ _ e=>e.elim
theorem Jv {P:Program}:QaY P Wh:=fun _ _ _ _ _ e=>e.elim
theorem Qv {P:Program} {J:Qh} {l:List (Nat × Fun)} (h:Qaa (Qt P) l):Wm P (gam J l):=⟨h,NL,Qdv,Jv⟩
theorem GM {P:Program} {J:Qh} {l li:List (Nat × Fun)} {cd:Code→Ks→List AV→List Dfr→H→Prop} (h:Qaa (Qt P) l) (hi:Qaa (ItOk P) li) (hc:QaY P cd):Wm P (UR J l li cd):=⟨h,hi,Qdv,hc⟩
theorem Qt.imp {P:Program} {f:Nat} {g g':Fun} (h:Qt P f g) (hi:∀ as hh k,g' as hh k→g as hh k):Qt P f g':=fun as hh Q e μ w args hR ha=>h as hh Q (hi _ _ _ e) μ w args hR ha
theorem ItOk.imp {P:Program} {f:Nat} {g g':Fun} (h:ItOk P f g) (hi:∀ as hh k,g' as hh k→g as hh k):ItOk P f g':=fun as hh Q e μ w args hR ha=>h as hh Q (hi _ _ _ e) μ w args hR ha
def Qew:Fun:=fun as h k=>match as with
  | [x]=>k x h
  | _=>False
theorem noEscape_ok {P:Program} {f:FuncId} {fn:Func} (hf:P.funcs[f]?=some fn) (hn:(fn.name == "runtime.NumGoroutine")=false) (hb:fn.body.isNone=true) (h1:Extern.findNext fn=none) (h2:Extern.find fn=some Extern.AbiNoEscape.same):Qt P f Qew:=by
  intro as h Q e μ w args hR ha
  left
  unfold Qew at e
  split at e
  · rename_i x
    obtain ⟨v,_,hv,hx,hn'⟩:=AV.relL_cons.1 ha
    rw [AV.relL_nil] at hn';subst hn'
    have:args=#[v]:=Array.toList_inj.1 hv
    subst this
    refine ⟨v,w,μ,x,h,?_,hx,Post.refl hR,e⟩
    have h3:(Extern.AbiNoEscape.same #[v]).run P w=.ok v w:=rfl
    rw [beq_eq_false_iff_ne] at hn
    rw [Option.isNone_iff_eq_none] at hb
    simp [callFunc,hf,hn,hb,h1,h2,h3]
  · exact e.elim
def XT:Fun:=fun as h k=>match as with
  | [.iface t (.map id)]=>asMap (h.get id) (fun es clock=>Qz (.amap es clock) h fun n h'=>k (.iface t (.map n)) h') fun es=>Qz (.smap es) h fun n h'=>k (.iface t (.map n)) h'
  | _=>False
where
  asMap (b:Blk) (k:List (AV × AV × Nat)→Nat→Prop) (k2:List (AV × AV)→Prop):Prop :=
    match b with
    | .amap es clock=>k es clock
    | .smap es=>k2 es
    | _=>False
theorem cloneF_ok {P:Program} {f:FuncId} {fn:Func} (hf:P.funcs[f]?=some fn) (hn:(fn.name == "runtime.NumGoroutine")=false) (hb:fn.body.isNone=true) (h1:Extern.findNext fn=none) (h2:Extern.find fn=some Extern.MapsClone.clone):Qt P f XT:=by
  intro as h Q e μ w args hR ha
  left
  unfold XT at e
  split at e
  · rename_i t id
    unfold XT.asMap at e
    split at e
    · rename_i es clock hg
      rw [Zo] at e
      obtain ⟨n,h',hp,e⟩:=e
      obtain ⟨v,_,hv,hx,hn'⟩:=AV.relL_cons.1 ha
      rw [AV.relL_nil] at hn';subst hn'
      have:args=#[v]:=Array.toList_inj.1 hv
      subst this
      obtain ⟨v',w',μ',q1,q2,q3⟩:=QbU (P:=P) hR (a:=.iface t (.map id)) (r:=.iface t (.map n)) (h':=h') (by simp only [QaV,hg,hp]) hx
      refine ⟨v',w',μ',_,h',?_,q2,q3,e⟩
      rw [beq_eq_false_iff_ne] at hn
      rw [Option.isNone_iff_eq_none] at hb
      simp [callFunc,hf,hn,hb,h1,h2,q1]
    · rename_i es hg
      rw [Zo] at e
      obtain ⟨n,h',hp,e⟩:=e
      obtain ⟨v,_,hv,hx,hn'⟩:=AV.relL_cons.1 ha
      rw [AV.relL_nil] at hn';subst hn'
      have:args=#[v]:=Array.toList_inj.1 hv
      subst this
      obtain ⟨v',w',μ',q1,q2,q3⟩:=QbU (P:=P) hR (a:=.iface t (.map id)) (r:=.iface t (.map n)) (h':=h') (by simp only [QaV,hg,hp]) hx
      refine ⟨v',w',μ',_,h',?_,q2,q3,e⟩
      rw [beq_eq_false_iff_ne] at hn
      rw [Option.isNone_iff_eq_none] at hb
      simp [callFunc,hf,hn,hb,h1,h2,q1]
    · exact e.elim
  · exact e.elim
end Go.Am
namespace Go.Am
open Go Go.ChangeShapes Go.RowKit
theorem law_calls {P:Program} {f:FuncId} {g:Fun} (hok:Qt P f g) (henter:∀ args w,(callFunc f args).run P w=.ok (.enter f args) w) {as:List AV} {h:H} {Q:AV→H→Prop} (hg:g as h Q)
    {μ:Mu} {W:World} {args:Array Value} (hR:Rel μ h W) (ha:AV.relL μ as args.toList):GU P μ h W f args Q:=by
  rcases hok as h Q hg μ W args hR ha with ⟨v,w',μ',r,h',q1,_⟩ | ⟨_,q⟩
  · rw [henter] at q1;cases q1
  · exact q
def H0:H:=⟨.lf,0,0⟩
theorem below_of_post {μ μ':Mu} {h h':H} {W W':World} (hp:Post μ h W μ' h' W') (hb:∀ id b d,h.base≤id→μ id=some (b,d)→(h.get id).live=false):Below W.heap.size W W' :=
  ⟨hp.frame.os,hp.frame.tape,hp.frame.output,hp.frame.size,fun k hk=>hp.frame.block k hk fun id d h1 h2=>hb id k d h1 h2⟩
def isT (r:AV) (_:H):Prop:=r=.bool true
theorem law {P:Program} {f:FuncId} {g:Fun} (hok:Qt P f g) (henter:∀ args w,(callFunc f args).run P w=.ok (.enter f args) w) {as:List AV} {h:H} (hg:g as h isT) {μ:Mu} (hb:∀ id b d,h.base≤id→μ id=some (b,d)→(h.get id).live=false)
    {W:World} {args:Array Value} (hR:Rel μ h W) (ha:AV.relL μ as args.toList):Calls P f args W fun e W'=>e=.returned (.bool true)∧Below W.heap.size W W' :=
  Calls.mono (law_calls hok henter hg hR ha) fun e W' he=>by
    obtain ⟨v,μ',r,h',rfl,hv,hp,hr⟩:=he
    have hr:r=.bool true:=hr
    subst hr
    simp only [AV.rel] at hv;subst hv
    exact ⟨rfl,below_of_post hp hb⟩
section
variable {H:Type} {enc:TypeId × Value→H} {P:Program}
theorem JM (hl:laidOutB P=true) {W W':World} (hb:Below W.heap.size W W'):∀ {ts:List TypeId} {vs:List Value} {ds:List (DataW H)} {ps:List MemPlace},(∀ t∈ts,P.readableRec t=true∧t < P.types.size) →
    DataW.TrodAll enc P W 0 (fun _=>true) true ts vs ds ps→(∀ x∈ps,x.block < W.heap.size)→DataW.TrodAll enc P W' 0 (fun b=>decide (b < W.heap.size)) true ts vs ds ps
  | [],_,_,_,_,h,_=>by obtain ⟨rfl,rfl,rfl⟩:=trodAll_nil h;rfl
  | t :: ts, _, _, _, ht, h, hlt => by
    obtain ⟨v,vs1,d,ds1,a,b,rfl,rfl,rfl,h1,h2⟩:=trodAll_cons h
    exact ⟨a,b,Below.trod hl (ht t (by simp)).1 (ht t (by simp)).2 h1 hb (fun x hx=>hlt x (by simp [hx])),JM hl hb (fun t h=>ht t (by simp [h])) h2 (fun x hx=>hlt x (by simp [hx])),rfl⟩
theorem post_of_below {f:Func} {s:ChangeSpec} {W W':World} {args:Array Value} {v:Value} {ds gs:List (DataW H)} {before:List MemPlace} {fresh handsOn:Bool} (hv:s.vars=[]) (hl:laidOutB P=true) (hpar:∀ t∈f.params.toList,P.readableRec t=true∧t < P.types.size)
    (hW:DataW.Whole enc P f.params.toList s.vars false W args.toList ds gs before) (hb:Below W.heap.size W W') (ha:(s.fn H (ds++gs)).args=ds) (hvs:(s.fn H (ds++gs)).vars=[])
    (hres:∀ (b:Nat) (sp:Nat→Bool) (hd:Bool),DataW.TrodAll enc P W' b sp hd f.resultTypes.toList (v.resultList f.resultTypes.size) (s.fn H (ds++gs)).results []):s.post enc P f false fresh handsOn false W args v W':=by
  have hW':=hW
  have hlt:=hW.lt
  obtain ⟨p,q,hA,hV,rfl,hz,hn⟩:=hW
  rw [hv] at hV
  obtain ⟨rfl,rfl⟩:=trodVars_none hV
  refine ⟨ds,[],p++[],[],p,[],hW',hres _ _ _,?_,?_,hb.frame _,fun h=>by cases h⟩
  · rw [ha];exact JM hl hb hpar hA (fun x hx=>hlt x (by simp [hx]))
  · rw [hv,hvs];rfl
theorem bool_res {W':World} {f:Func} {t:TypeId} (hr:f.resultTypes=#[t]) (ht:P.underlying t=some .bool) (b:Bool) (k:Nat) (sp:Nat→Bool) (hd:Bool) :
    DataW.TrodAll enc P W' k sp hd f.resultTypes.toList ((Value.bool b).resultList f.resultTypes.size) [.lit (.bool b)] []:=by
  rw [hr]
  exact trodAll_mk1 ⟨1,by simp [DataW.trod,Value.cells,ht]⟩
end
end Go.Am
namespace Go.Am
open Go
def arg (as:List AV) (k:AV→List AV→Prop):Prop:=List.rec (motive:=fun _=>Prop) False (fun a t _=>k a t) as
def QY (as:List AV) (p:Prop):Prop:=List.rec (motive:=fun _=>Prop) p (fun _ _ _=>False) as
theorem Qf {as:List AV} {k:AV→List AV→Prop} (e:arg as k):∃ a t,as=a::t∧k a t:=by
  cases as with
  | nil=>exact e.elim
  | cons a t=>exact ⟨a,t,rfl,e⟩
theorem Qi {as:List AV} {p:Prop} (e:QY as p):as=[]∧p:=by
  cases as with
  | nil=>exact ⟨rfl,e⟩
  | cons a t=>exact e.elim
def ZH (v:AV) (k:Nat→Prop):Prop:=Gw v (k 0) fun _ _ len _ _ _=>k len
def delK (o:Option (Option (Nat × Blk))) (h:H) (k:H→Prop):Prop:=op' o fun p=>match p with
  | some q=>Yy q.1 q.2 h k
  | none=>k h
def spX (o:Option AV) (k:AV→Prop):Prop:=match o with
  | some v=>k v
  | none=>False
end Go.Am
namespace Go.Am
open Go
theorem YO.resort {es es2:List (AV × AV)} {es':List (AV × AV × Nat)} {clock:Nat} (s:YO es es' clock) (p:es.Perm es2):YO es2 es' clock :=
  ⟨s.perm.trans p,(p.map (·.1)).nodup_iff.1 s.keys,s.stamps,s.low⟩
structure Deader (n:Nat) (h1 h2:H):Prop where
  next:h2.next=h1.next
  base:h2.base=h1.base
  low:∀ id,id < n→h2.get id=h1.get id
  high:∀ id,n≤id→h2.get id=h1.get id∨h2.get id=.dead∨∃ es es2,h1.get id=.smap es∧h2.get id=.smap es2∧es.Perm es2
theorem Deader.refl (n:Nat) (h:H):Deader n h h:=⟨rfl,rfl,fun _ _=>rfl,fun _ _=>.inl rfl⟩
theorem Deader.any {n:Nat} {h1 h2:H} (d:Deader n h1 h2) (id:Nat):h2.get id=h1.get id∨h2.get id=.dead∨∃ es es2,h1.get id=.smap es∧h2.get id=.smap es2∧es.Perm es2:=by
  rcases Nat.lt_or_ge id n with h | h
  · exact .inl (d.low id h)
  · exact d.high id h
theorem Deader.live {n:Nat} {h1 h2:H} (d:Deader n h1 h2) {id:Nat} (h:(h2.get id).live=true):(h1.get id).live=true:=by
  rcases d.any id with e | e | ⟨es,es2,e,_⟩
  · rw [← e];exact h
  · rw [e] at h;cases h
  · rw [e];rfl
theorem Post.deader {μ μ':Mu} {h h1 h2:H} {w w':World} (hR:Rel μ h w) (p:Post μ h w μ' h1 w') (d:Deader h.next h1 h2):Post μ h w μ' h2 w':=by
  refine ⟨p.ext,⟨?_,fun id b e hm=>?_,fun i j b e f hi hj li lj hbj=>p.rel.inj i j b e f hi hj (d.live li) (d.live lj) (by have:=d.base;omega),fun id b e hm=>?_,p.rel.cnt,p.rel.glb.step d.base (fun id hi=>d.low id (by have:=hR.wf.low;have:=p.grows.base;omega)) fun _ _=>rfl⟩,p.frame,⟨?_,?_,fun id hi hm=>?_,fun id hi=>?_,fun id hi hl=>p.grows.dead id hi (d.live hl)⟩,fun id b e hi hm hb hl=>p.fresh id b e hi hm hb (d.live hl)⟩
  · exact ⟨by rw [d.base,d.next];exact p.rel.wf.low⟩
  · rw [d.next];exact p.rel.dom id b e hm
  · rcases d.any id with q | q | ⟨es, es2, q1, q2, q3⟩
    · rw [q,d.base];exact p.rel.blk id b e hm
    · rw [q];trivial
    · have hb := p.rel.blk id b e hm
      rw [q1] at hb
      obtain ⟨h0,es',clock,ces,r1,r2,r3⟩:=hb
      rw [q2];exact ⟨h0,es',clock,ces,r1,r2,r3.resort q3⟩
  · rw [d.next];exact p.grows.next
  · rw [d.base];exact p.grows.base
  · rw [d.low id hi];exact p.grows.keep id hi hm
  · rw [d.low id (Nat.lt_of_lt_of_le hi hR.wf.low)];exact p.grows.low id hi
theorem Qt.deader {P:Program} {f:FuncId} {g g':Fun} (hg:Qt P f g) (hi:∀ as h k,h.Wf→g' as h k→g as h fun r h1=>∃ h2,Deader h.next h1 h2∧k r h2):Qt P f g':=by
  intro as h Q e μ w args hR ha
  rcases hg as h _ (hi as h Q hR.wf e) μ w args hR ha with ⟨v,w',μ',r,h1,q1,q2,q3,h2,q4,q5⟩ | ⟨q1,q2⟩
  · exact .inl ⟨v,w',μ',r,h2,q1,q2,q3.deader hR q4,q5⟩
  · exact .inr ⟨q1,Calls.mono q2 fun e w' ⟨v,μ',r,h1,p1,p2,p3,h2,p4,p5⟩=>⟨v,μ',r,h2,p1,p2,p3.deader hR p4,p5⟩⟩
theorem Qt.up {P:Program} {f:FuncId} {g g':Fun} (hg:Qt P f g) (hi:∀ as h k,g' as h k→∃ K,g as h K∧∀ r h',K r h'→k r h'):Qt P f g':=by
  intro as h Q e μ w args hR ha
  obtain ⟨K,e,hK⟩:=hi as h Q e
  rcases hg as h K e μ w args hR ha with ⟨v,w',μ',r,h1,q1,q2,q3,q4⟩ | ⟨q1,q2⟩
  · exact .inl ⟨v,w',μ',r,h1,q1,q2,q3,hK _ _ q4⟩
  · exact .inr ⟨q1,Calls.mono q2 fun e w' ⟨v,μ',r,h1,p1,p2,p3,p4⟩=>⟨v,μ',r,h1,p1,p2,p3,hK _ _ p4⟩⟩
end Go.Am
namespace Go.Am
open Go
theorem Ue {h h':H} {i:Nat} {b:Blk} (e:h.put i b=some h'):i < h.next∧h.base≤i∧h'.next=h.next∧h'.base=h.base∧∀ id,h'.get id=if id=i then b else h.get id:=by
  rw [H.put_eq] at e
  split at e
  · rename_i hlt
    injection e with e;subst e
    refine ⟨hlt.1,hlt.2,rfl,rfl,fun id=>?_⟩
    rw [H.get_eq,H.get_eq]
    simp only [Tr.get_set]
    split <;> split <;> first | rfl | omega | simp_all
  · cases e
theorem Qaq {h:H} {i:Nat} (b:Blk) (h1:i < h.next) (h2:h.base≤i):∃ h',h.put i b=some h':=⟨_,by rw [H.put_eq,if_pos ⟨h1,h2⟩]⟩
theorem push_ok (h:H) (b:Blk):∃ h',h.push b=some (h.next,h'):=by unfold H.push;exact ⟨_,rfl⟩
structure Iter (m r:Nat) (es0:List (AV × AV)) (es:List (AV × AV × Nat)) (clock:Nat) (seen:List Nat) (h:H):Prop where
  mp:h.get m=.amap es clock
  it:h.get r=.miter (some m) clock seen clock
  shown:YO es0 es clock
theorem Iter.ne {m r:Nat} {es0:List (AV × AV)} {es:List (AV × AV × Nat)} {clock:Nat} {seen:List Nat} {h:H} (i:Iter m r es0 es clock seen h):m≠r:=by
  intro e;subst e;have:=i.it;rw [i.mp] at this;cases this
theorem Iter.nextA {m r : Nat} {es0 : List (AV × AV)} {es : List (AV × AV × Nat)} {clock : Nat} {seen : List Nat} {h : H} (i : Iter m r es0 es clock seen h) {k : AV → H → Prop}
    (hgo:∀ e∈es,e.2.2 ∉ seen→∃ h',h.put r (.miter (some m) clock (seen++[e.2.2]) clock)=some h'∧k (.tuple [.bool true,e.1,e.2.1]) h')
    (hend:(∀ e∈es,e.2.2∈seen)→∃ h1 h2 h3,h.put m (.smap es0)=some h1∧h1.put r .dead=some h2∧Alike h2 h3∧k (.tuple [.bool false]) h3):JT (.ptr r 0) h k:=by
  unfold JT
  simp only [i.it,i.mp]
  have hst:(!seen.isEmpty && !es.isEmpty && es.all (fun e=>Nat.ble clock e.2.2))=false:=by
    cases es with
    | nil=>simp
    | cons e l =>
      have:=i.shown.low e List.mem_cons_self
      have hb:Nat.ble clock e.2.2=false:=by
        cases hc:Nat.ble clock e.2.2 with
        | false=>rfl
        | true=>rw [Qk] at hc;omega
      simp [hb]
  rw [hst]
  simp only
  intro c hc
  unfold Kj at hc
  have hold:∀ e∈es,Nat.blt e.2.2 clock=true:=fun e he=>by rw [QH];exact i.shown.low e he
  have e1:((es.filter fun e=>!N7 seen e.2.2).filter fun e=>Nat.blt e.2.2 clock)=es.filter fun e=>!N7 seen e.2.2:=by
    rw [List.filter_eq_self];intro e he;exact hold e (List.mem_filter.1 he).1
  have e2:((es.filter fun e=>!N7 seen e.2.2).filter fun e=>!Nat.blt e.2.2 clock)=[]:=by
    rw [List.filter_eq_nil_iff];intro e he;simp [hold e (List.mem_filter.1 he).1]
  simp only [e1,e2,List.append_nil] at hc
  rcases List.mem_append.1 hc with hc | hc
  · split at hc
    · rename_i hnil
      simp at hc;subst hc
      refine .inr ?_
      obtain ⟨h1,h2,h3,p1,p2,p3,p4⟩:=hend (fun e he=>by
        have:=(List.filter_eq_nil_iff.1 hnil) e he
        simpa [GK] using this)
      exact ⟨es0,h1,h2,h3,i.shown,p1,p2,p3,p4⟩
    · cases hc
  · obtain ⟨e, he, rfl⟩ := List.mem_map.1 hc
    obtain ⟨he,hs⟩:=List.mem_filter.1 he
    obtain ⟨x,v,n⟩:=e
    obtain ⟨h',p1,p2⟩:=hgo (x,v,n) he (by simpa [GK] using hs)
    simp only [KL,p1]
    exact p2
theorem Iter.next {m r:Nat} {es0:List (AV × AV)} {es:List (AV × AV × Nat)} {clock:Nat} {seen:List Nat} {h:H} (i:Iter m r es0 es clock seen h) {k:AV→H→Prop}
    (hgo:∀ e∈es,e.2.2 ∉ seen→∃ h',h.put r (.miter (some m) clock (seen++[e.2.2]) clock)=some h'∧k (.tuple [.bool true,e.1,e.2.1]) h')
    (hend:(∀ e∈es,e.2.2∈seen)→∃ h1 h2,h.put m (.smap es0)=some h1∧h1.put r .dead=some h2∧k (.tuple [.bool false]) h2):JT (.ptr r 0) h k :=
  i.nextA hgo fun ha=>let ⟨h1,h2,p1,p2,p3⟩:=hend ha;⟨h1,h2,h2,p1,p2,.refl _,p3⟩
theorem find_stamp {es : List (AV × AV × Nat)} (hs : (es.map (·.2.2)).Nodup) {e : AV × AV × Nat} (he : e ∈ es) : es.find? (fun x => Nat.beq x.2.2 e.2.2) = some e := by
  induction es with
  | nil=>cases he
  | cons a l ih =>
    rw [List.map_cons,List.nodup_cons] at hs
    rw [List.find?_cons]
    rcases List.mem_cons.1 he with rfl | he
    · have : Nat.beq e.2.2 e.2.2 = true := by rw [Nat.beq_eq]
      rw [this]
    · have : Nat.beq a.2.2 e.2.2 = false := by
        cases hb:Nat.beq a.2.2 e.2.2 with
        | false=>rfl
        | true=>rw [Nat.beq_eq] at hb;exact absurd (List.mem_map.2 ⟨e,he,hb.symm⟩) hs.1
      rw [this];exact ih hs.2 he
theorem Iter.entry {m r:Nat} {es0:List (AV × AV)} {es:List (AV × AV × Nat)} {clock:Nat} {seen:List Nat} {e:AV × AV × Nat} {h:H} (i:Iter m r es0 es clock (seen++[e.2.2]) h) (he:e∈es):VU (.ptr r 0) h=some (.tuple [e.1,e.2.1]):=by
  unfold VU
  have:Nat.beq clock clock=true:=by rw [Nat.beq_eq]
  simp only [i.it,i.mp,this,List.getLast?_append,List.getLast?_singleton,Option.some_or,find_stamp i.shown.stamps he]
theorem Iter.step {m r:Nat} {es0:List (AV × AV)} {es:List (AV × AV × Nat)} {clock:Nat} {seen seen':List Nat} {h h':H} (i:Iter m r es0 es clock seen h) (hp:h.put r (.miter (some m) clock seen' clock)=some h'):Iter m r es0 es clock seen' h':=by
  obtain ⟨_,_,_,_,g⟩:=Ue hp
  exact ⟨by rw [g,if_neg i.ne];exact i.mp,by rw [g,if_pos rfl],i.shown⟩
def rest (seen:List Nat) (es:List (AV × AV × Nat)):List (AV × AV × Nat):=es.filter fun e=>!seen.contains e.2.2
theorem rest_step {es : List (AV × AV × Nat)} (hs : (es.map (·.2.2)).Nodup) {e : AV × AV × Nat} (he : e ∈ es) {seen : List Nat} (hn : e.2.2 ∉ seen) : (rest seen es).Perm (e :: rest (seen ++ [e.2.2]) es) := by
  induction es with
  | nil=>cases he
  | cons a l ih =>
    rw [List.map_cons,List.nodup_cons] at hs
    rcases List.mem_cons.1 he with rfl | he
    · have h1 : rest (seen ++ [e.2.2]) l = rest seen l := by
        unfold rest
        apply List.filter_congr
        intro x hx
        have:x.2.2≠e.2.2:=fun q=>hs.1 (List.mem_map.2 ⟨x,hx,q⟩)
        simp [this]
      have h2:rest seen (e::l)=e::rest seen l:=by unfold rest;rw [List.filter_cons];simp [hn]
      have h3:rest (seen++[e.2.2]) (e::l)=rest (seen++[e.2.2]) l:=by unfold rest;rw [List.filter_cons];simp
      rw [h2,h3,h1]
    · have hne : a.2.2 ≠ e.2.2 := fun q => hs.1 (List.mem_map.2 ⟨e, he, q.symm⟩)
      have ih:=ih hs.2 he
      unfold rest at ih ⊢
      rw [List.filter_cons,List.filter_cons]
      by_cases ha:a.2.2∈seen
      · simp only [List.contains_eq_mem, ha, decide_true, Bool.not_true, List.mem_append, true_or]
        simpa [List.contains_eq_mem] using ih
      · have hb : a.2.2 ∉ seen ++ [e.2.2] := by simp [ha, hne]
        simp only [List.contains_eq_mem,ha,hb,decide_false,Bool.not_false,if_true]
        refine .trans (.cons a ?_) (.swap _ _ _)
        simpa [List.contains_eq_mem] using ih
theorem rest_nil {es:List (AV × AV × Nat)} {seen:List Nat} (h:∀ e∈es,e.2.2∈seen):rest seen es=[]:=by
  unfold rest;rw [List.filter_eq_nil_iff];intro e he;simp [h e he]
theorem Qbh (es:List (AV × AV × Nat)):rest [] es=es:=by
  unfold rest;rw [List.filter_eq_self];intro e he;simp
end Go.Am
namespace Go.Am
open Go
theorem UU (n:Int):∃ q:Int,Qd .i64 n=n - 18446744073709551616 * q∧-9223372036854775808≤Qd .i64 n∧Qd .i64 n < 9223372036854775808:=by
  rw [Z2]
  simp only [IntKind.wrap,IntKind.bits,IntKind.signed,Bool.true_and]
  split
  · rename_i hc;simp at hc;exact ⟨n / 18446744073709551616+1,by omega,by omega,by omega⟩
  · rename_i hc;simp at hc;exact ⟨n / 18446744073709551616,by omega,by omega,by omega⟩
theorem wrap_sub2 (n a b:Int):Qd .i64 (Int.sub (Qd .i64 (Int.sub n a)) b)=Qd .i64 (Int.sub (Qd .i64 (Int.sub n b)) a):=by
  show Qd .i64 (Qd .i64 (n - a) - b)=Qd .i64 (Qd .i64 (n - b) - a)
  obtain ⟨q1,h1,_⟩:=UU (n - a)
  obtain ⟨q2,h2,_⟩:=UU (n - b)
  obtain ⟨q3,h3,h4,h5⟩:=UU (Qd .i64 (n - a) - b)
  obtain ⟨q4,h6,h7,h8⟩:=UU (Qd .i64 (n - b) - a)
  omega
def Kq (n:Int) (l:List Int):Int:=l.foldl (fun n x=>Qd .i64 (Int.sub n x)) n
theorem Kp {l l':List Int} (h:l.Perm l') (n:Int):Kq n l=Kq n l' :=
  h.foldl_eq' (fun x _ y _ z=>wrap_sub2 z x y) n
end Go.Am
namespace Go.Am
open Go Go.ChangeShapes Go.WideShapes Go.RowKit
theorem pars_ok {P:Program} {ts:List TypeId} (h:(ts.all fun t=>P.readableRec t && Nat.blt t P.types.size)=true):∀ t∈ts,P.readableRec t=true∧t < P.types.size:=fun t ht=>by
  have:=List.all_eq_true.1 h t ht
  simp only [Bool.and_eq_true,QH] at this
  exact this
end Go.Am
namespace Go.Am
open Go
def Vz:Code→List (Code × Code)
  | .seq a b=>Vz a++Vz b
  | .cond _ a b=>Vz a++Vz b
  | .block _ b=>Vz b
  | .loop b=>Vz b
  | .scope b=>Vz b
  | .rangeFunc _ _ a b=>[(a,b)]
  | _=>[]
def Qbg (f:Func) (i:Nat):Code × Code :=
  match f.body with
  | some c=>(Vz c).getD i (.skip,.skip)
  | none=>(.skip,.skip)
def rfK (G:Gam) (v:AV) (ps:List Nat) (c:Code × Code) (env:List AV) (h:H) (k:Nat→Nat→H→Prop):Prop :=
  match v with
  | .func (.func f) first captured=>Qz (.defd true) h fun id0 h=>Qz (.loop .ready none ps c.1 c.2 env) h fun id1 h=>G.it f (first++(.yield id1::captured)) h fun _ h=>k id0 id1 h
  | _=>False
def Qe9 (id0 id1:Nat) (norm ret:List Dfr→H→Prop) (ex:Nat→List Dfr→H→Prop) (ds:List Dfr) (h:H):Prop :=
  match h.get id1 with
  | .loop .busy _ _ _ _ _=>False
  | .loop _ pend _ _ _ _ => Zr id1 .exhausted pend h fun h' => match pend with
    | none=>norm (.coll id0::ds) h'
    | some .ret=>ret (.coll id0::ds) h'
    | some (.exit i)=>ex i (.coll id0::ds) h'
    | _=>False
  | _=>False
def exB (c:Bool) (p q:List Dfr→H→Prop):List Dfr→H→Prop :=
  match c with
  | true=>p
  | false=>q
end Go.Am
namespace Go.Am
open Go
theorem QaJ {n:Nat} {k k':Nat→Prop} (hk:∀ x,k x→k' x):fN n k→fN n k':=by rw [Zb,Zb];exact hk _
theorem QaN {c:Bool} {p p':Prop} (h1:p→p'):ck c p→ck c p':=by rw [QN,QN];exact fun h=>⟨h.1,h1 h.2⟩
theorem Qc3 {α:Type} {o:Option α} {k k':α→Prop} (hk:∀ x,k x→k' x):op' o k→op' o k':=by
  rw [QX,QX];rintro ⟨a,b,c⟩;exact ⟨a,b,hk _ c⟩
theorem DY {v:AV} {k k' k2 k2':Nat→Nat→Prop} (hk:∀ x y,k x y→k' x y) (hk2:∀ x y,k2 x y→k2' x y):Qcy v k k2→Qcy v k' k2':=by
  rw [Uh,Uh]
  rintro (⟨a,b,c,d⟩ | ⟨a,b,c,d⟩)
  · exact .inl ⟨a,b,c,hk _ _ d⟩
  · exact .inr ⟨a,b,c,hk2 _ _ d⟩
theorem Gq {b:Blk} {k1 k1':Bool→Nat→List AV→Prop} {k2 k2':Nat→Nat→Bool→Str→Prop} (h1:∀ m t cs,k1 m t cs→k1' m t cs) (h2:∀ t f g s,k2 t f g s→k2' t f g s):ZX b k1 k2→ZX b k1' k2':=by
  rw [Zj,Zj]
  rintro (⟨a,b,c,d,q⟩ | ⟨a,b,c,d,e,q⟩)
  · exact .inl ⟨a,b,c,d,h1 _ _ _ q⟩
  · exact .inr ⟨a,b,c,d,e,h2 _ _ _ _ q⟩
theorem glK_mono {h:H} {g:Nat} {k k':List AV→Prop} (hk:∀ cs,k cs→k' cs):glK h g k→glK h g k':=QaN (Gq (fun _ _ cs=>QaN (hk cs)) fun _ _ _ _ h=>h)
theorem faK_mono {off:Nat} {p:AV} {k k':AV→Prop} (hk:∀ v,k v→k' v):faK off p k→faK off p k':=DY (fun _ _=>QaJ fun _=>hk _) fun _ _=>QaJ fun _=>hk _
theorem ldV_mono {p:AV} {h:H} {k k':AV→Prop} (hk:∀ v,k v→k' v):ldV p h k→ldV p h k':=DY (fun _ _=>Gq (fun _ _ _=>Qc3 hk) fun _ _ _ _=>QaN (QaJ fun _=>hk _)) fun _ _=>glK_mono fun _=>Qc3 hk
def faP (off:Nat) (p:AV) (k:AV→Prop):Prop:=Go.Am.asPtr p fun id o=>fN (Nat.add o off) fun o=>k (.ptr id o)
def ldP (p:AV) (h:H) (k:AV→Prop):Prop:=Go.Am.asPtr p fun id off=>ZX (h.get id) (fun _ _ cs=>op' (Q8 cs off) k) fun _ _ _ s=>ck (Nat.blt off s.len) (fN (s.get off) fun c=>k (.int .u8 (Int.ofNat c)))
theorem faP_up {off:Nat} {p:AV} {k:AV→Prop} (q:faP off p k):faK off p k:=by
  unfold faP at q;rw [asPtr_iff] at q
  obtain ⟨i,o,rfl,q⟩:=q;exact q
theorem ldP_up {p:AV} {h:H} {k:AV→Prop} (q:ldP p h k):ldV p h k:=by
  unfold ldP at q;rw [asPtr_iff] at q
  obtain ⟨i,o,rfl,q⟩:=q;exact q
end Go.Am
namespace Go.Am
open Go Go.ChangeShapes Go.RowKit
def Qd6:List Blk→Nat→Tr→Tr
  | [],_,t=>t
  | b::bs,i,t=>Qd6 bs (i+1) (Tr.set t i b)
def Hg (gs:List Blk):H:=⟨Qd6 gs 0 .lf,gs.length,gs.length⟩
theorem Qa1:∀ (gs:List Blk) (i:Nat) (t:Tr) (j:Nat),Tr.get (Qd6 gs i t) j=if i≤j∧j < i+gs.length then gs.getD (j - i) .dead else Tr.get t j
  | [], i, t, j => by
    show Tr.get t j=_
    rw [if_neg (by simp)]
  | b :: bs, i, t, j => by
    show Tr.get (Qd6 bs (i+1) (Tr.set t i b)) j=_
    rw [Qa1 bs (i+1) _ j,Tr.get_set]
    by_cases h1:i+1≤j∧j < i+1+bs.length
    · rw [if_pos h1,if_pos (by simp;omega),show j - i=(j - (i+1))+1 from by omega];simp
    · rw [if_neg h1]
      by_cases h2:j=i
      · subst h2;rw [if_pos rfl,if_pos (by simp)];simp
      · rw [if_neg h2,if_neg (by simp;omega)]
theorem Qfq (gs:List Blk) (i:Nat):(Hg gs).get i=gs.getD i .dead:=by
  rw [H.get_eq]
  show (if i < gs.length then Tr.get (Qd6 gs 0 .lf) i else .dead)=_
  rw [Qa1]
  by_cases h:i < gs.length
  · rw [if_pos h,if_pos ⟨Nat.zero_le _,by omega⟩];simp
  · rw [if_neg h];simp [List.getElem?_eq_none (Nat.le_of_not_lt h)]
def GlOk (W:World) (g:Nat) (b:Blk):Prop :=
  b=.dead∨∃ (t:Nat) (cs:List AV) (ccs:Array Value),b=.cells false t cs∧W.heap[g]?=some (.cells ccs t (0,0))∧∀ (i:Nat) (a:AV),cs[i]?=some a→∃ v,ccs[i]?=some v∧AV.rel J8 a v
def YG (W:World) (g:Nat):Nat :=
  match W.heap[g]? with
  | some (.cells ccs _ _)=>ccs.size
  | _=>0
def QeB:DataW Unit→AV
  | .lit (.int k n)=>.int k n
  | .lit (.bool b)=>.bool b
  | _=>.junk
def QeI (P : Program) (t : TypeId) (u : Nat) (d : DataW Unit) : List AV :=
  match P.underlying t,d with
  | some (.array _ e), .agg ds => match P.cellsOf e with
    | 1=>ds.map QeB
    | _=>[]
  | some (.interface _),.iface _ _=>[.iface u .junk]
  | _,_=>[]
theorem lit_ok {P : Program} {W : World} {base : Nat} {sp : Nat → Bool} {held : Bool} {fuel : Nat} {t : TypeId} {cs : List Value} {d : DataW Unit} {p : List MemPlace} {v : Value} (h : DataW.trod (fun _ => ()) P W base sp held fuel t cs = some (d, p)) (hc : cs = [v]) : AV.rel J8 (QeB d) v := by
  subst hc
  have key:∀ l,d=.lit l→v=(match l with | .int k n=>.int k n | .bool b=>.bool b | _=>v):=by
    rintro l rfl
    cases fuel with
    | zero=>simp [DataW.trod] at h
    | succ n =>
      unfold DataW.trod at h
      split at h
      all_goals first
        | (simp at h;done)
        | (split at h <;> first | (simp at h;done) | (injection h with h;injection h with h _;injection h with h;subst h;simp_all;done) | skip)
        | (injection h with h;injection h with h _;injection h with h;subst h;simp_all;done)
        | skip
      · simp only [Option.map_eq_some_iff] at h
        obtain ⟨_,_,h⟩:=h;cases h
      · simp only [Option.map_eq_some_iff, Option.bind_eq_some_iff] at h
        obtain ⟨_,_,_,_,h⟩:=h;cases h
      · split at h
        · simp only [Option.bind_eq_some_iff] at h
          obtain ⟨_,_,h⟩:=h
          split at h <;> cases h
        · cases h
  unfold QeB
  split
  · have:=key _ rfl;simp only at this;rw [this];simp [AV.rel]
  · have:=key _ rfl;simp only at this;rw [this];simp [AV.rel]
  · simp [AV.rel]
theorem iface_ok {P:Program} {W:World} {base:Nat} {sp:Nat→Bool} {fuel:Nat} {t:TypeId} {cs:List Value} {d:DataW Unit} {s:String} {p:List MemPlace} {ms:Array (String × TypeId)} (ht:P.underlying t=some (.interface ms)) (h:DataW.trod (fun _=>()) P W base sp false fuel t cs=some (.iface s d,p)):∃ u v,cs=[.iface u v]:=by
  cases fuel with
  | zero=>simp [DataW.trod] at h
  | succ n =>
    unfold DataW.trod at h
    rw [ht] at h
    split at h <;> simp_all
theorem glAV_ok {P : Program} {W : World} {fuel : Nat} {t : TypeId} {cs : List Value} {d : DataW Unit} {p : List MemPlace} (h : DataW.trod (fun _ => ()) P W 0 (fun _ => true) false fuel t cs = some (d, p)) :
    ∃ u,∀ (i:Nat) (a:AV),(QeI P t u d)[i]?=some a→∃ v,cs[i]?=some v∧AV.rel J8 a v:=by
  by_cases hi:∃ ms s x,P.underlying t=some (.interface ms)∧d=.iface s x
  · obtain ⟨ms, s, x, ht, rfl⟩ := hi
    obtain ⟨u,v,rfl⟩:=iface_ok ht h
    refine ⟨u,fun i a e=>?_⟩
    unfold QeI at e;rw [ht] at e
    cases i with
    | zero =>
      simp at e;subst e
      exact ⟨_,rfl,by simp [AV.rel]⟩
    | succ i=>simp at e
  · refine ⟨0, fun i a e => ?_⟩
    unfold QeI at e
    split at e
    · rename_i n e' ds ht
      split at e
      · rename_i hc
        obtain ⟨xs,m,_,hx,hl,hxn,hall⟩:=DataW.trod_array ht h
        injection hx with hx1 hx2
        injection hx1 with hx1
        subst hx1
        rw [List.getElem?_map,List.getElem?_map,Option.map_map,Option.map_eq_some_iff] at e
        obtain ⟨y,hy,rfl⟩:=e
        have hin:i < n:=by rw [← hxn];exact (List.getElem?_eq_some_iff.1 hy).1
        have hq:=hall i hin
        rw [hy,hc,Nat.mul_one] at hq
        have hlen:i < cs.length:=by
          rcases Nat.lt_or_ge i cs.length with q | q
          · exact q
          · rw [List.drop_eq_nil_of_le q] at hq
            exfalso
            cases m with
            | zero=>simp [DataW.trod] at hq
            | succ m =>
              simp only [List.take_nil] at hq
              unfold DataW.trod at hq
              split at hq <;> simp_all
        refine ⟨cs[i],List.getElem?_eq_getElem hlen,lit_ok (p:=y.2) (fuel:=m) (d:=y.1) hq ?_⟩
        rw [List.drop_eq_getElem_cons hlen];rfl
      · simp at e
    · rename_i ms s x ht;exact absurd ⟨ms,s,x,ht,rfl⟩ hi
    · simp at e
def Qdr (P : Program) (laid : List (String × DataW Unit)) (ts us : Nat → Nat) (g : Nat) : Blk :=
  match laid.find? fun x=>P.globalNamed x.1 == some g,(P.globals[g]?).map (·.type) with
  | some x, some t => match QeI P t (us g) x.2 with
    | []=>.dead
    | a::as=>.cells false (ts g) (a::as)
  | _,_=>.dead
def Ym (P:Program) (laid:List (String × DataW Unit)) (ts us:Nat→Nat):List Blk:=(List.range P.globals.size).map (Qdr P laid ts us)
theorem Qdm {P:Program} {W:World}:∀ {l:List (String × DataW Unit)} {ps:List MemPlace},DataW.LaidVars P W l ps→∀ x∈l,∃ g t cs fuel p,P.globalNamed x.1=some g∧(P.globals[g]?).map (·.type)=some t∧W.var? P x.1=some cs ∧
    DataW.trod (fun _=>()) P W 0 (fun _=>true) false fuel t cs.toList=some (x.2,p)∧∀ y∈MemPlace.row ⟨g,0,none⟩ cs.size,y∈ps
  | [],_,_,x,hx=>by cases hx
  | (n, d) :: r, ps, h, x, hx => by
    obtain ⟨g,t,cs,fuel,p,q,h1,h2,h3,h4,h5,rfl⟩:=h
    rcases List.mem_cons.1 hx with rfl | hx
    · exact ⟨g,t,cs,fuel,p,h1,h2,h3,h4,fun y hy=>by simp [hy]⟩
    · obtain ⟨g, t, cs, fuel, p, a1, a2, a3, a4, a5⟩ := Qdm h5 x hx
      exact ⟨g,t,cs,fuel,p,a1,a2,a3,a4,fun y hy=>by have:=a5 y hy;simp [this]⟩
theorem glBlk_ok {P : Program} {W : World} {laid : List (String × DataW Unit)} (hl : laidMet P laid W) (g : Nat) : ∃ t u, ∀ ts us : Nat → Nat, ts g = t → us g = u → GlOk W g (Qdr P laid ts us g) := by
  obtain ⟨ps,hv,_,hr⟩:=hl
  cases hf:laid.find? fun x=>P.globalNamed x.1 == some g with
  | none=>exact ⟨0,0,fun ts us _ _=>.inl (by simp only [Qdr,hf])⟩
  | some x =>
    have hx:x∈laid:=List.mem_of_find?_eq_some hf
    have hp:=List.find?_some hf
    obtain ⟨g',ty,cs,fuel,p,a1,a2,a3,a4,a5⟩:=Qdm hv x hx
    have hg:g'=g:=by simp only [a1,beq_iff_eq] at hp;injection hp
    subst hg
    obtain ⟨u,hu⟩:=glAV_ok a4
    have hw:∃ t fr,W.heap[g']?=some (.cells cs t fr):=by
      unfold World.var? at a3
      rw [a1] at a3
      simp only [Option.bind_some] at a3
      split at a3
      · rename_i c t fr hh;injection a3 with a3;subst a3;exact ⟨_,_,hh⟩
      · cases a3
    obtain ⟨t,fr,hw⟩:=hw
    refine ⟨t,u,fun ts us e1 e2=>?_⟩
    unfold Qdr
    rw [hf,a2]
    simp only
    rw [e2]
    cases hq:QeI P ty u x.2 with
    | nil=>exact .inl rfl
    | cons a as =>
      rw [hq] at hu
      obtain ⟨v,hv0,_⟩:=hu 0 a rfl
      have hpos:0 < cs.size:=by
        rcases Nat.eq_zero_or_pos cs.size with q | q
        · rw [Array.eq_empty_of_size_eq_zero q] at hv0;simp at hv0
        · exact q
      obtain ⟨⟨c,t',hc⟩,_⟩:=hr g' 0 (a5 _ (by simp [MemPlace.row];exact hpos))
      rw [hw] at hc;injection hc with hc;injection hc with _ _ hfr
      subst hfr
      refine .inr ⟨_,_,cs,rfl,by rw [e1];exact hw,fun i a ha=>?_⟩
      obtain ⟨v,h1,h2⟩:=hu i a ha
      exact ⟨v,by rw [← Array.getElem?_toList];exact h1,h2⟩
end Go.Am
namespace Go.Am
open Go
set_option linter.all false
def q_move (T:Ty) (G:Gam) (ty:Nat) (x:Operand):(Operand→AV)→H→(AV→H→Prop)→Prop:=fun ρ h k=>k (ρ x) h
def q_assign (T:Ty) (G:Gam) (ty:Nat) (x:Operand):(Operand→AV)→H→(AV→H→Prop)→Prop:=fun ρ h k=>k (ρ x) h
def q_pick (T:Ty) (G:Gam) (ty:Nat) (c:Operand) (a:Operand) (b:Operand):(Operand→AV)→H→(AV→H→Prop)→Prop:=fun ρ h k=>Qc0 (T ty).kd (ρ c) (ρ a) (ρ b) fun v=>k v h
def q_nilCheck (T:Ty) (G:Gam) (ty:Nat) (x:Operand):(Operand→AV)→H→(AV→H→Prop)→Prop:=fun ρ h k=>QQ (ρ x) (k (ρ x) h)
def q_binOp (T:Ty) (G:Gam) (ty:Nat) (op:BinOp) (t:TypeId) (x:Operand) (y:Operand) (_:TypeId):(Operand→AV)→H→(AV→H→Prop)→Prop:=fun ρ h k=>binK T op t x y ρ fun v=>k v h
def q_unOp (T:Ty) (G:Gam) (ty:Nat) (op:UnOp) (_:TypeId) (x:Operand):(Operand→AV)→H→(AV→H→Prop)→Prop:=fun ρ h k=>match op with
    | .not=>asB (ρ x) fun b=>fB (Bool.not b) fun b=>k (.bool b) h
    | op=>op' (aUn op (ρ x)) fun v=>Wo (T ty).kd v fun v=>k v h
def q_convert (T:Ty) (G:Gam) (ty:Nat) (s:TypeId) (d:TypeId) (x:Operand):(Operand→AV)→H→(AV→H→Prop)→Prop:=fun ρ h k=>match (T s).kd,(T d).kd with
    | .int k1,.int k2=>asI k1 (ρ x) fun n=>fI (Qd k2 n) fun z=>k (.int k2 z) h
    | .str,.str=>asS (ρ x) fun s=>k (.str s) h
    | .slice e, .str => match (T e).kd.isU8 with
      | true=>Y1 (ρ x) h fun s=>k (.str s) h
      | false=>False
    | .str, .slice e => match (T e).kd.isU8 with
      | true=>asS (ρ x) fun s=>Qz (.bytes e 0 true s) h fun n h'=>k (.slice n 0 s.len s.len 1 false) h'
      | false=>False
    | _,_=>opX T G (.convert s d x) ρ h k
def q_fieldAddr (T:Ty) (G:Gam) (ty:Nat) (t:TypeId) (x:Operand) (f:Nat):(Operand→AV)→H→(AV→H→Prop)→Prop:=fun ρ h k=>match VJ T t f with
    | some (off,_)=>faK off (ρ x) fun v=>k v h
    | none=>False
def q_field (T:Ty) (G:Gam) (ty:Nat) (t:TypeId) (x:Operand) (f:Nat):(Operand→AV)→H→(AV→H→Prop)→Prop:=fun ρ h k=>match VJ T t f with
    | some (off,ft)=>asAgg (ρ x) fun cs=>Dn (T ft).kd (T ft).size off cs fun v=>k v h
    | none=>False
def q_indexAddr (T:Ty) (G:Gam) (ty:Nat) (t:TypeId) (x:Operand) (i:Operand):(Operand→AV)→H→(AV→H→Prop)→Prop:=fun ρ h k=>match (T t).kd with
    | .slice e => match (T e).kd.known with
      | true=>ixK (T e).size (ρ x) (ρ i) fun v=>k v h
      | false=>False
    | .arr n e => match (T e).kd.known with
      | true=>QdU n (T e).size (ρ x) (ρ i) fun v=>k v h
      | false=>False
    | _=>False
def q_index (T:Ty) (G:Gam) (ty:Nat) (t:TypeId) (x:Operand) (i:Operand):(Operand→AV)→H→(AV→H→Prop)→Prop:=fun ρ h k=>match (T t).kd with
    | .str=>WN (ρ x) (ρ i) fun n=>k (.int .u8 n) h
    | .arr n e => match (T e).kd.known with
      | true=>asAgg (ρ x) fun cs=>YU (ρ i) fun i=>ck (Nat.blt i n) (fN (Nat.mul i (T e).size) fun o=>Dn (T e).kd (T e).size o cs fun v=>k v h)
      | false=>False
    | _=>False
def q_extract (T:Ty) (G:Gam) (ty:Nat) (x:Operand) (i:Nat):(Operand→AV)→H→(AV→H→Prop)→Prop:=fun ρ h k=>asTup (ρ x) fun vs=>op' (Q8 vs i) fun v=>Wo (T ty).kd v fun v=>k v h
def q_build (T:Ty) (G:Gam) (ty:Nat) (t:TypeId) (ps:Array (Nat × Operand)):(Operand→AV)→H→(AV→H→Prop)→Prop:=fun ρ h k=>match (T t).kd with
    | .struct fs => match fs.all (fun p => (T p.2).kd.known) with
      | true=>VI T ρ (Qar T fs) ps.toList (T t).zero fun cs=>k (.agg cs) h
      | false=>False
    | .arr _ e => match (T e).kd.known with
      | true=>VI T ρ (Qas T e) ps.toList (T t).zero fun cs=>k (.agg cs) h
      | false=>False
    | _=>False
def q_load (T:Ty) (G:Gam) (ty:Nat) (t:TypeId) (a:Operand):(Operand→AV)→H→(AV→H→Prop)→Prop:=fun ρ h k=>ldK T t (ρ a) h fun v=>k v h
def q_store (T:Ty) (G:Gam) (ty:Nat) (t:TypeId) (a:Operand) (x:Operand):(Operand→AV)→H→(AV→H→Prop)→Prop:=fun ρ h k=>stK T t (ρ a) (ρ x) h (k .junk)
def q_alloc (T:Ty) (G:Gam) (ty:Nat) (e:TypeId):(Operand→AV)→H→(AV→H→Prop)→Prop:=fun ρ h k=>match (T e).kd.known with
    | true=>Qz (.cells false e (T e).zero) h fun n h'=>k (.ptr n 0) h'
    | false=>False
def q_box (T:Ty) (G:Gam) (ty:Nat) (e:TypeId) (x:Operand):(Operand→AV)→H→(AV→H→Prop)→Prop:=fun ρ h k=>match (T e).kd.agg with
    | true=>asAgg (ρ x) fun cs=>Qz (.cells false e cs) h fun n h'=>k (.ptr n 0) h'
    | false=>ck (ZB (ρ x)) (Qz (.cells false e [ρ x]) h fun n h'=>k (.ptr n 0) h')
def q_buildSlice (T:Ty) (G:Gam) (ty:Nat) (t:TypeId) (n:Nat) (ps:Array (Nat × Operand)):(Operand→AV)→H→(AV→H→Prop)→Prop:=fun ρ h k=>match (T t).kd with
    | .slice e => match Kx T e && Nat.ble 0 n && Nat.ble (Nat.mul n (T e).size) 16777216 with
      | true=>VI T ρ (Qas T e) ps.toList (Ua n (T e).zero) fun cs=>op' (Wd (T e).kd.isU8 e cs) fun b=>Qz b h fun i h'=>k (.slice i 0 n n (T e).size true) h'
      | false=>False
    | _=>False
def q_makeSlice (T:Ty) (G:Gam) (ty:Nat) (t:TypeId) (l:Operand) (c:Operand):(Operand→AV)→H→(AV→H→Prop)→Prop:=fun ρ h k=>op' (opA T (.makeSlice t l c) ρ) fun p=>Qz p.1 h fun n h'=>k (p.2 n) h'
def q_lookup (T:Ty) (G:Gam) (ty:Nat) (t:TypeId) (x:Operand) (i:Operand) (ok:Bool):(Operand→AV)→H→(AV→H→Prop)→Prop:=fun ρ h k=>match (T t).kd with
    | .map kt e=>op' (Q5 T kt e ok (ρ x) (ρ i) h) fun v=>Wo (T ty).kd v fun v=>k v h
    | _=>False
def q_mapUpdate (T:Ty) (G:Gam) (ty:Nat) (t:TypeId) (m:Operand) (i:Operand) (v:Operand):(Operand→AV)→H→(AV→H→Prop)→Prop:=fun ρ h k=>match (T t).kd with
    | .map kt _=>op' (Y3 T kt (ρ m) (ρ i) (ρ v) h) fun p=>Yy p.1 p.2 h (k .junk)
    | _=>False
def q_range (T:Ty) (G:Gam) (ty:Nat) (t:TypeId) (x:Operand):(Operand→AV)→H→(AV→H→Prop)→Prop:=fun ρ h k=>match (T t).kd with
    | .map _ _=>VN (ρ x) h k
    | _=>False
def q_typeAssert (T:Ty) (G:Gam) (ty:Nat) (x:Operand) (_:TypeId) (a:TypeId) (ok:Bool):(Operand→AV)→H→(AV→H→Prop)→Prop:=fun ρ h k=>op' (Wl T a ok (ρ x)) fun v=>Wo (T ty).kd v fun v=>k v h
def q_slice (T:Ty) (G:Gam) (ty:Nat) (t:TypeId) (x:Operand) (lo hi mx:Option Operand):(Operand→AV)→H→(AV→H→Prop)→Prop:=fun ρ h k=>match mx with
  | none => match (T t).kd with
    | .str=>Qa5 (ρ x) (lo.map ρ) (hi.map ρ) fun s=>k (.str s) h
    | .slice e => match (T e).kd.known with
      | true=>slK (T e).size (ρ x) (lo.map ρ) (hi.map ρ) fun v=>k v h
      | false=>False
    | .arr _ _=>opX T G (.slice t x lo hi none) ρ h k
    | _=>False
  | some m=>opX T G (.slice t x lo hi (some m)) ρ h k
def q_makeMap (T:Ty) (G:Gam) (ty:Nat) (t:TypeId) (r:Option Operand):(Operand→AV)→H→(AV→H→Prop)→Prop:=fun ρ h k=>match r with
  | none=>Qz (.smap []) h fun n h'=>k (.map n) h'
  | some m=>opX T G (.makeMap t (some m)) ρ h k
def q_len (T:Ty) (G:Gam) (ty:Nat) (args:Array Operand) (argTypes:Array TypeId):(Operand→AV)→H→(AV→H→Prop)→Prop:=fun ρ h k=>match args.toList,argTypes.toList with
    | [x], [t] => match (T t).kd with
      | .str=>asS (ρ x) fun s=>k (.int .i64 (Int.ofNat s.len)) h
      | .slice _=>Gw (ρ x) (k (.int .i64 (Int.ofNat 0)) h) fun _ _ len _ _ _=>k (.int .i64 (Int.ofNat len)) h
      | .map _ _=>op' (JI (ρ x) h) fun v=>k v h
      | _=>False
    | _,_=>False
def q_append (T:Ty) (G:Gam) (ty:Nat) (args:Array Operand) (argTypes:Array TypeId):(Operand→AV)→H→(AV→H→Prop)→Prop:=fun ρ h k=>match args.toList,argTypes.toList with
    | [s, x], [t, t2] => match (T t).kd with
      | .slice e => match Kx T e && Vd (T t2).kd with
        | true => match (T e).kd.isU8 && Nat.beq (T e).size 1 && Nat.beq (T e).bytes 1 with
          | true=>apB (T t2).kd e (ρ s) (ρ x) h k
          | false=>apC e (T e).size (T e).bytes (ρ s) (ρ x) h k
        | false=>False
      | _=>False
    | _,_=>False
def q_builtin (T:Ty) (G:Gam) (ty:Nat) (b:Builtin) (args:Array Operand) (argTypes:Array TypeId):(Operand→AV)→H→(AV→H→Prop)→Prop:=match b with
  | .len=>q_len T G ty args argTypes
  | .append=>q_append T G ty args argTypes
  | b=>fun ρ h k=>opF T G ty (.call ⟨.builtin b,args,argTypes⟩) ρ h k
def q_value (T:Ty) (G:Gam) (ty:Nat) (f:Operand) (args:Array Operand):(Operand→AV)→H→(AV→H→Prop)→Prop:=fun ρ h k=>K8 G (ρ f) (args.toList.map ρ) h fun v h'=>Wo (T ty).kd v fun v=>k v h'
def q_invoke (T:Ty) (G:Gam) (ty:Nat) (r:Operand) (m:String) (args:Array Operand) (argTypes:Array TypeId):(Operand→AV)→H→(AV→H→Prop)→Prop:=fun ρ h k=>opX T G (.call ⟨.invoke r m,args,argTypes⟩) ρ h k
def q_call (T:Ty) (G:Gam) (ty:Nat) (c:Call):(Operand→AV)→H→(AV→H→Prop)→Prop:=Call.rec (motive:=fun _=>(Operand→AV)→H→(AV→H→Prop)→Prop) (fun ce args argTypes=>Callee.rec (motive:=fun _=>(Operand→AV)→H→(AV→H→Prop)→Prop) (fun f=>q_value T G ty f args) (fun r m=>q_invoke T G ty r m args argTypes) (fun b=>q_builtin T G ty b args argTypes) ce) c
def q_insert (T:Ty) (G:Gam) (ty:Nat) (x0:TypeId) (x1:Operand) (x2:Operand) (x3:Operand):(Operand→AV)→H→(AV→H→Prop)→Prop:=fun ρ h k=>opX T G (.insert x0 x1 x2 x3) ρ h k
def q_ready (T:Ty) (G:Gam) (ty:Nat) (x0:Nat):(Operand→AV)→H→(AV→H→Prop)→Prop:=fun ρ h k=>opX T G (.ready x0) ρ h k
def q_waits (T:Ty) (G:Gam) (ty:Nat) (x0:Nat):(Operand→AV)→H→(AV→H→Prop)→Prop:=fun ρ h k=>opX T G (.waits x0) ρ h k
def q_sliceToArrayPointer (T:Ty) (G:Gam) (ty:Nat) (x0:TypeId) (x1:Operand):(Operand→AV)→H→(AV→H→Prop)→Prop:=fun ρ h k=>opX T G (.sliceToArrayPointer x0 x1) ρ h k
def q_makeInterface (T:Ty) (G:Gam) (ty:Nat) (x0:TypeId) (x1:Operand):(Operand→AV)→H→(AV→H→Prop)→Prop:=fun ρ h k=>opX T G (.makeInterface x0 x1) ρ h k
def q_makeFunc (T:Ty) (G:Gam) (ty:Nat) (x0:Fn) (x1:Array Operand) (x2:Array Operand):(Operand→AV)→H→(AV→H→Prop)→Prop:=fun ρ h k=>opX T G (.makeFunc x0 x1 x2) ρ h k
def q_makeChan (T:Ty) (G:Gam) (ty:Nat) (x0:TypeId) (x1:Operand):(Operand→AV)→H→(AV→H→Prop)→Prop:=fun ρ h k=>opX T G (.makeChan x0 x1) ρ h k
def q_mapEntry (T:Ty) (G:Gam) (ty:Nat) (x0:TypeId) (x1:Operand) (x2:Operand):(Operand→AV)→H→(AV→H→Prop)→Prop:=fun ρ h k=>opX T G (.mapEntry x0 x1 x2) ρ h k
def q_entryStore (T:Ty) (G:Gam) (ty:Nat) (x0:TypeId) (x1:Operand) (x2:Operand) (x3:Operand):(Operand→AV)→H→(AV→H→Prop)→Prop:=fun ρ h k=>opX T G (.entryStore x0 x1 x2 x3) ρ h k
def q_next (T:Ty) (G:Gam) (ty:Nat) (x0:Operand) (x1:Bool):(Operand→AV)→H→(AV→H→Prop)→Prop:=fun ρ h k=>opF T G ty (.next x0 x1) ρ h k
def q_entry (T:Ty) (G:Gam) (ty:Nat) (x0:Operand):(Operand→AV)→H→(AV→H→Prop)→Prop:=fun ρ h k=>opX T G (.entry x0) ρ h k
def q_go (T:Ty) (G:Gam) (ty:Nat) (x0:Call):(Operand→AV)→H→(AV→H→Prop)→Prop:=fun ρ h k=>opX T G (.go x0) ρ h k
def q_defer (T:Ty) (G:Gam) (ty:Nat) (x0:Call):(Operand→AV)→H→(AV→H→Prop)→Prop:=fun ρ h k=>opX T G (.defer x0) ρ h k
def q_panic (T:Ty) (G:Gam) (ty:Nat) (x0:Operand):(Operand→AV)→H→(AV→H→Prop)→Prop:=fun ρ h k=>opX T G (.panic x0) ρ h k
def q_send (T:Ty) (G:Gam) (ty:Nat) (x0:Operand) (x1:Operand):(Operand→AV)→H→(AV→H→Prop)→Prop:=fun ρ h k=>opX T G (.send x0 x1) ρ h k
def q_recv (T:Ty) (G:Gam) (ty:Nat) (x0:TypeId) (x1:Operand) (x2:Bool):(Operand→AV)→H→(AV→H→Prop)→Prop:=fun ρ h k=>opX T G (.recv x0 x1 x2) ρ h k
def q_select (T:Ty) (G:Gam) (ty:Nat) (x0:Array SelectCase) (x1:Bool):(Operand→AV)→H→(AV→H→Prop)→Prop:=fun ρ h k=>opX T G (.select x0 x1) ρ h k
def opQ (T:Ty) (G:Gam) (ty:Nat) (o:Op):(Operand→AV)→H→(AV→H→Prop)→Prop:=Op.rec (motive:=fun _=>(Operand→AV)→H→(AV→H→Prop)→Prop) (q_move T G ty) (q_assign T G ty) (q_pick T G ty) (q_alloc T G ty) (q_box T G ty) (q_build T G ty) (q_buildSlice T G ty) (q_insert T G ty) (q_load T G ty) (q_store T G ty) (q_ready T G ty) (q_waits T G ty) (q_nilCheck T G ty) (q_binOp T G ty) (q_unOp T G ty) (q_convert T G ty) (q_sliceToArrayPointer T G ty) (q_makeInterface T G ty) (q_makeFunc T G ty) (q_makeMap T G ty) (q_makeChan T G ty) (q_makeSlice T G ty) (q_slice T G ty) (q_fieldAddr T G ty) (q_field T G ty) (q_indexAddr T G ty) (q_index T G ty) (q_lookup T G ty) (q_mapUpdate T G ty) (q_mapEntry T G ty) (q_entryStore T G ty) (q_range T G ty) (q_next T G ty) (q_entry T G ty) (q_typeAssert T G ty) (q_extract T G ty) (q_call T G ty) (q_go T G ty) (q_defer T G ty) (q_panic T G ty) (q_send T G ty) (q_recv T G ty) (q_select T G ty) o
def isDefer (o:Op):Bool:=Op.rec (motive:=fun _=>Bool) (fun _=>false) (fun _=>false) (fun _ _ _=>false) (fun _=>false) (fun _ _=>false) (fun _ _=>false) (fun _ _ _=>false) (fun _ _ _ _=>false) (fun _ _=>false) (fun _ _ _=>false) (fun _=>false) (fun _=>false) (fun _=>false) (fun _ _ _ _ _=>false) (fun _ _ _=>false) (fun _ _ _=>false) (fun _ _=>false) (fun _ _=>false) (fun _ _ _=>false) (fun _ _=>false) (fun _ _=>false) (fun _ _ _=>false) (fun _ _ _ _ _=>false) (fun _ _ _=>false) (fun _ _ _=>false) (fun _ _ _=>false) (fun _ _ _=>false) (fun _ _ _ _=>false) (fun _ _ _ _=>false) (fun _ _ _=>false) (fun _ _ _ _=>false) (fun _ _=>false) (fun _ _=>false) (fun _=>false) (fun _ _ _ _=>false) (fun _ _=>false) (fun _=>false) (fun _=>false) (fun _=>true) (fun _=>false) (fun _ _=>false) (fun _ _ _=>false) (fun _ _=>false) o
theorem opQ_eq:opQ=opF:=by
  funext T G ty o
  cases o
  case slice t x lo hi mx=>cases mx <;> rfl
  case makeMap t r=>cases r <;> rfl
  case next i s=>rfl
  case call c=>
    obtain ⟨callee,args,argTypes⟩:=c
    cases callee with
    | value f=>rfl
    | invoke r m=>rfl
    | builtin b=>cases b <;> rfl
  all_goals rfl
end Go.Am
namespace Go.Am
open Go
set_option linter.all false
inductive Sl where
  | nil
  | cons (d:Nat) (v:AV) (r:Sl)
def UZ (e:Sl) (t:Nat):AV:=Sl.rec (motive:=fun _=>AV) .junk (fun d v _ ih=>Bool.rec (motive:=fun _=>AV) ih v (Nat.beq t d)) e
def Qd8 (e:Sl) (t:Nat) (k:AV→Prop):Prop:=Sl.rec (motive:=fun _=>Prop) (k .junk) (fun d v _ ih=>Bool.rec (motive:=fun _=>Prop) ih (k v) (Nat.beq t d)) e
theorem W7 (d t:Nat) (v:AV) (r:Sl):UZ (.cons d v r) t=if t=d then v else UZ r t:=by
  show (Bool.rec (motive:=fun _=>AV) (UZ r t) v (Nat.beq t d))=_
  cases h:Nat.beq t d with
  | true=>rw [Nat.beq_eq] at h;rw [if_pos h]
  | false=>rw [if_neg (by intro e;rw [← Nat.beq_eq,h] at e;cases e)]
theorem Qba (t:Nat) (k:AV→Prop):∀ e:Sl,Qd8 e t k=k (UZ e t)
  | .nil=>rfl
  | .cons d v r => by
    show (Bool.rec (motive:=fun _=>Prop) (Qd8 r t k) (k v) (Nat.beq t d))=k (Bool.rec (motive:=fun _=>AV) (UZ r t) v (Nat.beq t d))
    cases Nat.beq t d with
    | true=>rfl
    | false=>exact Qba t k r
structure SlE (n:Nat) (e:Sl) (env:List AV):Prop where
  len:env.length=n
  get:∀ t,UZ e t=Wi .junk env t
def evS (e:Sl):Operand→AV
  | .tmp t=>UZ e t
  | .const v=>Qc5 v
  | .global g=>.glob g 0
  | .func f=>.func (.func f) [] []
theorem XR {n:Nat} {e:Sl} {env:List AV} (h:SlE n e env):evS e=ev env:=by
  funext x;cases x <;> first | rfl | exact h.get _
def KC (n:Nat) (dst:Option Nat) (v:AV) (e:Sl) (k:Sl→Prop):Prop :=
  match dst with
  | some d=>Bool.rec (motive:=fun _=>Prop) (k e) (k (.cons d v e)) (Nat.blt d n)
  | none=>k e
theorem Kz {n:Nat} {e:Sl} {env:List AV} (h:SlE n e env) (dst:Option Nat) (v:AV) {k':Sl→Prop} {k:List AV→Prop} (hk:∀ e env,SlE n e env→k' e=k env):KC n dst v e k'=Xq dst v env k:=by
  rw [WY]
  cases dst with
  | none=>exact hk _ _ h
  | some d =>
    show (Bool.rec (motive:=fun _=>Prop) (k' e) (k' (.cons d v e)) (Nat.blt d n))=k (XB env d v)
    cases hb:Nat.blt d n with
    | true =>
      rw [QH] at hb
      refine hk _ _ ⟨by rw [YY,List.length_set,h.len],fun t=>?_⟩
      rw [W7,Z5,YY,h.get t,Z5]
      by_cases ht:t=d
      · subst ht;rw [if_pos rfl,List.getD_eq_getElem?_getD,List.getElem?_set_self (by rw [h.len];exact hb)];rfl
      · rw [if_neg ht,List.getD_eq_getElem?_getD,List.getD_eq_getElem?_getD,List.getElem?_set_ne (fun q=>ht q.symm)]
    | false =>
      have hd:¬ d < n:=fun q=>by rw [← QH,hb] at q;cases q
      refine hk _ _ ⟨by rw [YY,List.length_set,h.len],fun t=>?_⟩
      rw [h.get t,Z5,Z5,YY,List.set_eq_of_length_le (by rw [h.len];omega)]
def XH (J:Qh) (all:List Oper) (e:Sl) (h:H) (run:(AV→H→Prop)→Prop) (k:AV→H→Prop) (g:Nat × Bool):Prop :=
  match g with
  | (j, want) => match all[j]? with
    | some oj => match oj.dst with
      | some d => J.jn k fun j => ZW (UZ e d) (fun b => match want with
        | true=>br b (run j) (j Qb h)
        | false=>br b (j Qb h) (run j)) (j Qb h)
      | none=>False
    | none=>False
def Uy (J:Qh) (all:List Oper) (o:Oper) (e:Sl) (h:H) (run:(AV→H→Prop)→Prop) (k:AV→H→Prop):Prop :=
  Option.rec (motive:=fun _=>Prop) (run k) (XH J all e h run k) o.guard
theorem XI {n:Nat} {e:Sl} {env:List AV} (hE:SlE n e env) (J:Qh) (all:List Oper) (o:Oper) (h:H) (run:(AV→H→Prop)→Prop) (k:AV→H→Prop):Uy J all o e h run k=Ww J all o env h run k:=by
  unfold Uy Ww
  cases o.guard with
  | none=>rfl
  | some g =>
    obtain ⟨j,want⟩:=g
    show XH J all e h run k (j,want)=_
    unfold XH
    simp only [hE.get]
    rfl
def Gz (X:Ty→Gam→Nat→Op→(Operand→AV)→H→(AV→H→Prop)→Prop) (T:Ty) (G:Gam) (top:Bool) (n:Nat) (all:List Oper) (ops:List Oper):Sl→List Dfr→H→(Sl→List Dfr→H→Prop)→Prop :=
  List.rec (motive:=fun _=>Sl→List Dfr→H→(Sl→List Dfr→H→Prop)→Prop) (fun e ds h k=>k e ds h)
    (fun o _ ih e ds h k=>Bool.rec (motive:=fun _=>Prop) (Uy G.J all o e h (X T G o.type o.op (evS e) h) fun v h'=>KC n o.dst v e fun e=>ih e ds h' k) (match o.op with
      | .defer c => match top, o.guard, c.callee with
        | true, none, .value f => match evS e f with
          | .func (.func g) first captured=>KC n o.dst .junk e fun e1=>ih e1 (.call g (first++c.args.toList.map (evS e)) captured::ds) h k
          | _=>False
        | _,_,_=>False
      | _=>False) (isDefer o.op)) ops
theorem Nd (T : Ty) (G : Gam) (top : Bool) (n : Nat) (all : List Oper) : ∀ (ops : List Oper) (e : Sl) (env : List AV) (ds : List Dfr) (h : H) (k' : Sl → List Dfr → H → Prop) (k : List AV → List Dfr → H → Prop), SlE n e env → (∀ e env ds h, SlE n e env → k' e ds h = k env ds h) → Gz opF T G top n all ops e ds h k' = Uq T G top all ops env ds h k
  | [],e,env,ds,h,k',k,hE,hk=>hk _ _ _ _ hE
  | o :: r, e, env, ds, h, k', k, hE, hk => by
    have ih:=fun e env ds h hE=>Nd T G top n all r e env ds h k' k hE hk
    obtain ⟨dst,op,type,pos,after,guard⟩:=o
    have hv:=XR hE
    cases op
    case defer c=>
      show (match (generalizing:=false) top,guard,c.callee with
        | true, none, .value f => match evS e f with
          | .func (.func g) first captured=>KC n dst .junk e fun e1=>Gz opF T G top n all r e1 (.call g (first++c.args.toList.map (evS e)) captured::ds) h k'
          | _=>False
        | _,_,_=>False)=(match (generalizing:=false) top,guard,c.callee with
        | true, none, .value f => match ev env f with
          | .func (.func g) first captured=>Xq dst .junk env fun env1=>Uq T G top all r env1 (.call g (first++c.args.toList.map (ev env)) captured::ds) h k
          | _=>False
        | _,_,_=>False)
      rw [hv]
      cases top with
      | false=>rfl
      | true =>
        cases guard with
        | some g=>rfl
        | none =>
          generalize c.callee=cal
          cases cal with
          | value f =>
            show (match ev env f with
              | .func (.func g) first captured=>KC n dst .junk e fun e1=>Gz opF T G true n all r e1 (.call g (first++c.args.toList.map (ev env)) captured::ds) h k'
              | _=>False)=(match ev env f with
              | .func (.func g) first captured=>Xq dst .junk env fun env1=>Uq T G true all r env1 (.call g (first++c.args.toList.map (ev env)) captured::ds) h k
              | _=>False)
            generalize ev env f=x
            cases x with
            | func fn a b =>
              cases fn with
              | func g=>exact Kz hE _ _ fun e env hE=>ih _ _ _ _ hE
              | _=>rfl
            | _=>rfl
          | _=>rfl
    all_goals
      refine (XI hE G.J all _ h _ _).trans ?_
      rw [hv]
      show Ww _ _ _ _ _ _ _=Ww _ _ _ _ _ _ _
      congr 1
      funext v h'
      exact Kz hE _ _ fun e env hE=>ih _ _ _ _ hE
structure JU where
  i:Nat
  op:Op
  e:Sl
  v:AV
  b:Bool
def Jt (T:Ty) (m:Nat) (h:H) (k:Prop) (l:List JU):Prop :=
  List.rec (motive:=fun _=>Prop) k (fun s _ ih=>match Bool.or (Nat.testBit m s.i) (Qco s.op) with
    | true=>ih
    | false=>ck (Bool.rec (motive:=fun _=>Bool) true (Zz (opR T s.op (evS s.e) h) s.v) s.b) ih) l
inductive Qab (n:Nat):List JU→List Q2→Prop
  | nil:Qab n [] []
  | cons {i:Nat} {op:Op} {e:Sl} {env:List AV} {v:AV} {b:Bool} {l:List JU} {l':List Q2} (h:SlE n e env) (r:Qab n l l'):Qab n (⟨i,op,e,v,b⟩::l) (⟨i,op,env,v,b⟩::l')
theorem rereadS_eq {n:Nat} (T:Ty) (m:Nat) (h:H) {k k':Prop} (hk:k'=k) {l:List JU} {l':List Q2} (hl:Qab n l l'):Jt T m h k' l=Z3 T m h k l':=by
  induction hl with
  | nil=>exact hk
  | @cons i op e env v b l l' hE r ih =>
    show (match Bool.or (Nat.testBit m i) (Qco op) with
      | true=>Jt T m h k' l
      | false=>ck (Bool.rec (motive:=fun _=>Bool) true (Zz (opR T op (evS e) h) v) b) (Jt T m h k' l))=_
    unfold Z3
    rw [ih,XR hE]
    rfl
def KT (J:Qh) (all:List Oper) (o:Oper) (e:Sl) (run:(AV→Prop)→Prop) (k:Bool→AV→Prop):Prop :=
  match o.guard with
  | none=>run (k true)
  | some (j, want) => match all[j]? with
    | some oj => match oj.dst with
      | some d => J.jb k fun j => ZW (UZ e d) (fun b => match want with
        | true=>br b (run (j true)) (j false Qb)
        | false=>br b (j false Qb) (run (j true))) (j false Qb)
      | none=>False
    | none=>False
theorem guardBS_eq {n:Nat} {e:Sl} {env:List AV} (hE:SlE n e env) (J:Qh) (all:List Oper) (o:Oper) (run:(AV→Prop)→Prop) (k:Bool→AV→Prop):KT J all o e run k=XJ J all o env run k:=by
  unfold KT XJ
  simp only [hE.get]
  rfl
def Yk (X:Ty→Gam→Nat→Op→(Operand→AV)→H→(AV→H→Prop)→Prop) (T:Ty) (G:Gam) (n:Nat) (all:List Oper) (M:List Nat) (π:List Nat):List JU→Sl→H→(List JU→Sl→H→Prop)→Prop :=
  List.rec (motive:=fun _=>List JU→Sl→H→(List JU→Sl→H→Prop)→Prop) (fun s e h k=>k s e h)
    (fun i _ ih seen e h k=>match all[i]? with
      | none=>False
      | some o => match opC T o.op with
        | 1=>KT G.J all o e (fun k=>X T G o.type o.op (evS e) h fun v _=>k v) fun b v=>KC n o.dst v e fun e'=>ih (⟨i,o.op,e,v,b⟩::seen) e' h k
        | 3=>Uy G.J all o e h (X T G o.type o.op (evS e) h) fun v h'=>Jt T (M.getD i 0) h' (KC n o.dst v e fun e=>ih seen e h' k) seen
        | _=>Uy G.J all o e h (X T G o.type o.op (evS e) h) fun v h'=>KC n o.dst v e fun e=>ih seen e h' k) π
theorem Vg (T : Ty) (G : Gam) (n : Nat) (all : List Oper) (M : List Nat) : ∀ (π : List Nat) (seen : List JU) (seen' : List Q2) (e : Sl) (env : List AV) (h : H) (k' : List JU → Sl → H → Prop) (k : List Q2 → List AV → H → Prop), Qab n seen seen' → SlE n e env → (∀ s s' e env h, Qab n s s' → SlE n e env → k' s e h = k s' env h) → Yk opF T G n all M π seen e h k' = QB T G all M π seen' env h k
  | [],_,_,_,_,_,_,_,hs,hE,hk=>hk _ _ _ _ _ hs hE
  | i :: r, seen, seen', e, env, h, k', k, hs, hE, hk => by
    have ih:=fun seen seen' e env h hs hE=>Vg T G n all M r seen seen' e env h k' k hs hE hk
    show (match all[i]? with
      | none=>False
      | some o => match opC T o.op with
        | 1=>KT G.J all o e (fun k=>opF T G o.type o.op (evS e) h fun v _=>k v) fun b v=>KC n o.dst v e fun e'=>Yk opF T G n all M r (⟨i,o.op,e,v,b⟩::seen) e' h k'
        | 3=>Uy G.J all o e h (opF T G o.type o.op (evS e) h) fun v h'=>Jt T (M.getD i 0) h' (KC n o.dst v e fun e=>Yk opF T G n all M r seen e h' k') seen
        | _=>Uy G.J all o e h (opF T G o.type o.op (evS e) h) fun v h'=>KC n o.dst v e fun e=>Yk opF T G n all M r seen e h' k')=_
    unfold QB
    rw [XR hE]
    cases all[i]? with
    | none=>rfl
    | some o =>
      have two:(Uy G.J all o e h (opF T G o.type o.op (ev env) h) fun v h'=>KC n o.dst v e fun e=>Yk opF T G n all M r seen e h' k')=(Ww G.J all o env h (opF T G o.type o.op (ev env) h) fun v h'=>Xq o.dst v env fun env=>QB T G all M r seen' env h' k):=by
        rw [XI hE]
        congr 1
        funext v h'
        exact Kz hE _ _ fun e env hE'=>ih _ _ _ _ _ hs hE'
      have three:(Uy G.J all o e h (opF T G o.type o.op (ev env) h) fun v h'=>Jt T (M.getD i 0) h' (KC n o.dst v e fun e=>Yk opF T G n all M r seen e h' k') seen)=(Ww G.J all o env h (opF T G o.type o.op (ev env) h) fun v h'=>Z3 T (M.getD i 0) h' (Xq o.dst v env fun env=>QB T G all M r seen' env h' k) seen'):=by
        rw [XI hE]
        congr 1
        funext v h'
        exact rereadS_eq T _ _ (Kz hE _ _ fun e env hE'=>ih _ _ _ _ _ hs hE') hs
      have one:(KT G.J all o e (fun k=>opF T G o.type o.op (ev env) h fun v _=>k v) fun b v=>KC n o.dst v e fun e'=>Yk opF T G n all M r (⟨i,o.op,e,v,b⟩::seen) e' h k')=(XJ G.J all o env (fun k=>opF T G o.type o.op (ev env) h fun v _=>k v) fun b v=>Xq o.dst v env fun env'=>QB T G all M r (⟨i,o.op,env,v,b⟩::seen') env' h k):=by
        rw [guardBS_eq hE]
        congr 1
        funext b v
        exact Kz hE _ _ fun e env hE'=>ih _ _ _ _ _ (.cons hE hs) hE'
      show (match opC T o.op with
        | 1=>_
        | 3=>_
        | _=>_)=(match opC T o.op with
        | 1=>_
        | 3=>_
        | _=>_)
      generalize opC T o.op=q
      rcases q with _ | _ | _ | _ | q
      · exact two
      · exact one
      · exact two
      · exact three
      · exact two
def mkS:(L:List Nat)→Tup L→Sl
  | [],_=>.nil
  | t::l,v=>.cons t v.1 (mkS l v.2)
def Jb:(L:List Nat)→Sl→(Tup L→Prop)→Prop
  | [],_,k=>k ()
  | t::l,e,k=>Qd8 e t fun v=>Jb l e fun vs=>k (v,vs)
theorem KU {n:Nat} {e:Sl} {env:List AV} (hE:SlE n e env):∀ (L:List Nat) (k:Tup L→Prop),Jb L e k=k (UQ L env)
  | [],k=>rfl
  | t :: l, k => by
    unfold Jb
    rw [Qba,KU hE l,hE.get];rfl
theorem QcP:∀ (L:List Nat) (v:Tup L) (t:Nat),t ∉ L→UZ (mkS L v) t=.junk
  | [],_,_,_=>rfl
  | x :: l, v, t, h => by
    unfold mkS
    rw [W7,if_neg (fun q=>h (by rw [q];exact List.mem_cons_self)),QcP l v.2 t fun q=>h (List.mem_cons_of_mem _ q)]
theorem GH : ∀ (n i : Nat) (L : List Nat) (v : Tup L), L.Pairwise (· < ·) → (∀ x, x ∈ L → i ≤ x ∧ x < i + n) → ∀ j, UZ (mkS L v) (i + j) = Wi .junk (Yv n i L v) j
  | 0, i, L, v, hp, hr, j => by
    cases L with
    | nil=>rfl
    | cons t l=>have:=hr t List.mem_cons_self;omega
  | n + 1, i, [], v, hp, hr, j => by
    cases j with
    | zero=>rfl
    | succ j =>
      show AV.junk=Wi .junk (Yv n (i+1) [] v) j
      rw [← GH n (i+1) [] v .nil (fun _ h=>by cases h) j];rfl
  | n + 1, i, t :: l, v, hp, hr, j => by
    have hp':=List.pairwise_cons.1 hp
    have ht:=hr t List.mem_cons_self
    unfold Yv
    cases hb:Nat.beq i t with
    | true =>
      rw [Nat.beq_eq] at hb;subst hb
      cases j with
      | zero=>unfold mkS;rw [W7,if_pos (by omega)];rfl
      | succ j =>
        show _=Wi .junk (Yv n (i+1) l v.2) j
        rw [← GH n (i+1) l v.2 hp'.2 (fun x hx=>?_) j]
        · show UZ (.cons i v.1 (mkS l v.2)) (i + (j + 1)) = _
          rw [W7,if_neg (by omega),(by omega:i+(j+1)=i+1+j)]
        · have:=hr x (List.mem_cons_of_mem _ hx);have:=hp'.1 x hx;omega
    | false =>
      have hne:i≠t:=fun e=>by rw [← Nat.beq_eq,hb] at e;cases e
      cases j with
      | zero =>
        show _=AV.junk
        refine QcP _ _ _ fun hm=>?_
        rcases List.mem_cons.1 hm with e | hm
        · omega
        · have:=hp'.1 _ hm;omega
      | succ j =>
        show _=Wi .junk (Yv n (i+1) (t::l) v) j
        rw [← GH n (i+1) (t::l) v hp (fun x hx=>?_) j,(by omega:i+(j+1)=i+1+j)]
        have h1:=hr x hx
        rcases List.mem_cons.1 hx with e | hm
        · omega
        · have:=hp'.1 _ hm;omega
theorem DG (n:Nat) (L:List Nat):(live n L).Pairwise (· < ·):=List.Pairwise.filter _ List.pairwise_lt_range
theorem live_lt {n x:Nat} {L:List Nat} (h:x∈live n L):x < n:=List.mem_range.1 (List.mem_filter.1 h).1
theorem Qey (n:Nat) (L:List Nat) (v:Tup (live n L)):SlE n (mkS (live n L) v) (Yv n 0 (live n L) v) :=
  ⟨W8 n 0 _ v,fun t=>by rw [← GH n 0 (live n L) v (DG n L) (fun x hx=>⟨Nat.zero_le _,by have:=live_lt hx;omega⟩) t,Nat.zero_add]⟩
def hasF (l:List Nat) (x:Nat):Bool:=List.rec (motive:=fun _=>Bool) false (fun a _ ih=>Bool.rec (motive:=fun _=>Bool) ih true (Nat.beq x a)) l
theorem Qdp:∀ (l:List Nat) (x:Nat),hasF l x=l.contains x
  | [],_=>rfl
  | a :: l, x => by
    show (Bool.rec (motive:=fun _=>Bool) (hasF l x) true (Nat.beq x a))=_
    rw [List.contains_cons,Qdp l x]
    cases h:Nat.beq x a with
    | true=>rw [Nat.beq_eq] at h;subst h;simp
    | false =>
      have:(x == a)=false:=by rw [beq_eq_false_iff_ne];intro e;rw [← Nat.beq_eq,h] at e;cases e
      rw [this];rfl
def QdY (x:Nat) (l:List Nat):List Nat:=Bool.rec (motive:=fun _=>List Nat) (x::l) l (hasF l x)
theorem QaS (x:Nat) (l:List Nat):QdY x l=QdX x l:=by
  unfold QdY QdX
  rw [Qdp]
  cases l.contains x <;> rfl
def Vc (a b:List Nat):List Nat:=List.rec (motive:=fun _=>List Nat) b (fun x _ ih=>QdY x ih) a
theorem VW (b:List Nat):∀ a:List Nat,Vc a b=Vb a b
  | []=>rfl
  | x :: a => by
    show QdY x (Vc a b)=QdX x (Vb a b)
    rw [QaS,VW b a]
def Qby (d:Option Nat) (acc:List Nat):List Nat :=
  match d with
  | some d=>List.rec (motive:=fun _=>List Nat) [] (fun x _ ih=>Bool.rec (motive:=fun _=>List Nat) (x::ih) ih (Nat.beq x d)) acc
  | none=>acc
theorem lessF_eq (d:Option Nat):∀ acc:List Nat,Qby d acc=QeD d acc:=by
  intro acc
  cases d with
  | none=>rfl
  | some d =>
    induction acc with
    | nil=>rfl
    | cons x l ih =>
      show (Bool.rec (motive:=fun _=>List Nat) (x::Qby (some d) l) (Qby (some d) l) (Nat.beq x d))=List.filter (fun x=>!(Nat.beq x d)) (x::l)
      rw [List.filter_cons,ih]
      cases Nat.beq x d <;> rfl
def Ur (x:Operand) (acc:List Nat):List Nat :=
  match x with
  | .tmp t=>QdY t acc
  | _=>acc
theorem J4:Ur=J5:=by
  funext x acc
  cases x <;> first | rfl | exact QaS _ _
def KQ (ops:List Oper) (o:Oper) (acc:List Nat):List Nat :=
  match o.guard with
  | some (j, _) => match ops[j]? with
    | some oj => match oj.dst with
      | some d=>QdY d acc
      | none=>acc
    | none=>acc
  | none=>acc
theorem guardRdF_eq:KQ=GL:=by
  funext ops o acc
  unfold KQ GL
  simp only [QaS]
  rfl
def Qan (all ops:List Oper) (acc:List Nat):List Nat:=List.rec (motive:=fun _=>List Nat) acc (fun o _ ih=>KQ all o (o.op.operands.toList.foldr Ur (Qby o.dst ih))) ops
theorem Nf (all:List Oper) (acc:List Nat):∀ ops:List Oper,Qan all ops acc=Qce all ops acc
  | []=>rfl
  | o :: l => by
    show KQ all o (o.op.operands.toList.foldr Ur (Qby o.dst (Qan all l acc)))=GL all o (o.op.operands.toList.foldr J5 (QeD o.dst (Qce all l acc)))
    rw [guardRdF_eq,J4,lessF_eq,Nf all acc l]
def Yt:Code→Lv→List Nat
  | .region _ ops _,L=>Qan ops.toList ops.toList L.norm
  | .seq a b,L=>Yt a ⟨Yt b L,L.ex,L.ret⟩
  | .cond c a b,L=>Ur c (Vc (Yt a L) (Yt b L))
  | .block id b,L=>Yt b ⟨L.norm,(id,L.norm)::L.ex,L.ret⟩
  | .loop b,L=>Yt b ⟨[],L.ex,L.ret⟩
  | .scope b,L=>Yt b L
  | .rangeFunc f _ a b,L=>Ur f (Vc (Yt a ⟨Yt b ⟨[],L.ex,L.ret⟩,L.ex,L.ret⟩) (L.ex.foldr (fun p acc=>Vc p.2 acc) (Vc L.ret L.norm)))
  | .skip,L=>L.norm
  | .label _,L=>L.norm
  | .ret,L=>L.ret
  | .exit i,L=>Qcx i L.ex
  | _,_=>[]
theorem readsF_eq (c:Code):∀ L:Lv,Yt c L=QV c L:=by
  induction c with
  | region id ops draw=>intro L;exact Nf _ _ _
  | seq a b iha ihb=>intro L;show Yt a ⟨Yt b L,L.ex,L.ret⟩=QV a ⟨QV b L,L.ex,L.ret⟩;rw [ihb,iha]
  | cond c a b iha ihb=>intro L;show Ur c (Vc (Yt a L) (Yt b L))=J5 c (Vb (QV a L) (QV b L));rw [J4,VW,iha,ihb]
  | block id b ih=>intro L;exact ih _
  | loop b ih=>intro L;exact ih _
  | scope b ih=>intro L;exact ih _
  | rangeFunc f ps a b iha ihb =>
    intro L
    show Ur f (Vc (Yt a ⟨Yt b ⟨[],L.ex,L.ret⟩,L.ex,L.ret⟩) (L.ex.foldr (fun p acc=>Vc p.2 acc) (Vc L.ret L.norm)))=J5 f (Vb (QV a ⟨QV b ⟨[],L.ex,L.ret⟩,L.ex,L.ret⟩) (L.ex.foldr (fun p acc=>Vb p.2 acc) (Vb L.ret L.norm)))
    have e:(fun (p:Nat × List Nat) acc=>Vc p.2 acc)=fun p acc=>Vb p.2 acc:=by funext p acc;exact VW _ _
    rw [J4,VW,VW,e,ihb,iha]
  | _=>intro L;rfl
def QbF (x:Nat) (l:List Nat):List Nat:=List.rec (motive:=fun _=>List Nat) [x] (fun a t ih=>Bool.rec (motive:=fun _=>List Nat) (Bool.rec (motive:=fun _=>List Nat) (a::ih) (a::t) (Nat.beq x a)) (x::a::t) (Nat.blt x a)) l
theorem DO (x a:Nat) (t:List Nat):QbF x (a::t)=if x < a then x::a::t else if x=a then a::t else a::QbF x t:=by
  show (Bool.rec (motive:=fun _=>List Nat) (Bool.rec (motive:=fun _=>List Nat) (a::QbF x t) (a::t) (Nat.beq x a)) (x::a::t) (Nat.blt x a))=_
  cases h:Nat.blt x a with
  | true=>rw [QH] at h;rw [if_pos h]
  | false =>
    have hn:¬ x < a:=fun q=>by rw [← QH,h] at q;cases q
    rw [if_neg hn]
    cases h2:Nat.beq x a with
    | true=>rw [Nat.beq_eq] at h2;rw [if_pos h2]
    | false=>rw [if_neg (by intro e;rw [← Nat.beq_eq,h2] at e;cases e)]
theorem Nz {x y : Nat} : ∀ {l : List Nat}, y ∈ QbF x l ↔ y = x ∨ y ∈ l
  | []=>by show y∈[x] ↔ _;simp
  | a :: t => by
    rw [DO]
    split
    · simp
    · split
      · rename_i h;subst h;simp
      · rw [List.mem_cons, List.mem_cons, Nz (l := t)]
        constructor
        · rintro (h | h | h)
          · exact .inr (.inl h)
          · exact .inl h
          · exact .inr (.inr h)
        · rintro (h | h | h)
          · exact .inr (.inl h)
          · exact .inl h
          · exact .inr (.inr h)
theorem Dg {x : Nat} : ∀ {l : List Nat}, l.Pairwise (· < ·) → (QbF x l).Pairwise (· < ·)
  | [],_=>by show [x].Pairwise _;simp
  | a :: t, h => by
    have h':=List.pairwise_cons.1 h
    rw [DO]
    split
    · rename_i hx
      refine List.pairwise_cons.2 ⟨fun y hy=>?_,h⟩
      rcases List.mem_cons.1 hy with e | hy
      · omega
      · have:=h'.1 y hy;omega
    · split
      · exact h
      · refine List.pairwise_cons.2 ⟨fun y hy => ?_, Dg h'.2⟩
        rcases Nz.1 hy with e | hy
        · omega
        · exact h'.1 y hy
def JO (n:Nat) (L:List Nat):List Nat:=List.rec (motive:=fun _=>List Nat) [] (fun x _ ih=>Bool.rec (motive:=fun _=>List Nat) ih (QbF x ih) (Nat.blt x n)) L
theorem NB (n x:Nat) (L:List Nat):JO n (x::L)=if x < n then QbF x (JO n L) else JO n L:=by
  show (Bool.rec (motive:=fun _=>List Nat) (JO n L) (QbF x (JO n L)) (Nat.blt x n))=_
  cases h:Nat.blt x n with
  | true=>rw [QH] at h;rw [if_pos h]
  | false=>rw [if_neg (fun q=>by rw [← QH,h] at q;cases q)]
theorem Xx {n y : Nat} : ∀ {L : List Nat}, y ∈ JO n L ↔ y < n ∧ y ∈ L
  | []=>by show y∈([]:List Nat) ↔ _;simp
  | x :: L => by
    rw [NB]
    split
    · rw [Nz, Xx (L := L), List.mem_cons]
      constructor
      · rintro (rfl | ⟨h1, h2⟩)
        · exact ⟨by assumption,.inl rfl⟩
        · exact ⟨h1,.inr h2⟩
      · rintro ⟨h1, h2 | h2⟩
        · exact .inl h2
        · exact .inr ⟨h1,h2⟩
    · rw [Xx (L := L), List.mem_cons]
      constructor
      · rintro ⟨h1,h2⟩;exact ⟨h1,.inr h2⟩
      · rintro ⟨h1, h2 | h2⟩
        · omega
        · exact ⟨h1,h2⟩
theorem J2 {n:Nat}:∀ {L:List Nat},(JO n L).Pairwise (· < ·)
  | []=>.nil
  | x :: L => by
    rw [NB]
    split
    · exact Dg J2
    · exact J2
theorem QcR : ∀ {a b : List Nat}, a.Pairwise (· < ·) → b.Pairwise (· < ·) → (∀ x, x ∈ a ↔ x ∈ b) → a = b
  | [],[],_,_,_=>rfl
  | [],y::b,_,_,h=>by have:=(h y).2 List.mem_cons_self;cases this
  | x::a,[],_,_,h=>by have:=(h x).1 List.mem_cons_self;cases this
  | x :: a, y :: b, ha, hb, h => by
    have ha':=List.pairwise_cons.1 ha
    have hb':=List.pairwise_cons.1 hb
    have e:x=y:=by
      rcases List.mem_cons.1 ((h x).1 List.mem_cons_self) with e | h1
      · exact e
      · rcases List.mem_cons.1 ((h y).2 List.mem_cons_self) with e | h2
        · exact e.symm
        · have:=ha'.1 y h2;have:=hb'.1 x h1;omega
    subst e
    rw [QcR ha'.2 hb'.2 fun z=>?_]
    constructor
    · intro hz
      rcases List.mem_cons.1 ((h z).1 (List.mem_cons_of_mem _ hz)) with e | h1
      · have:=ha'.1 z hz;omega
      · exact h1
    · intro hz
      rcases List.mem_cons.1 ((h z).2 (List.mem_cons_of_mem _ hz)) with e | h1
      · have:=hb'.1 z hz;omega
      · exact h1
theorem liveF_eq (n:Nat) (L:List Nat):JO n L=live n L:=by
  refine QcR J2 (DG n L) fun x=>?_
  rw [Xx]
  unfold live
  rw [List.mem_filter,List.mem_range,List.contains_iff_mem]
structure KsS where
  norm:Sl→List Dfr→H→Prop
  exit:Nat→Sl→List Dfr→H→Prop
  ret:Sl→List Dfr→H→Prop
structure KsE (n:Nat) (K':KsS) (K:Ks):Prop where
  norm:∀ e env ds h,SlE n e env→K'.norm e ds h=K.norm env ds h
  exit:∀ i e env ds h,SlE n e env→K'.exit i e ds h=K.exit i env ds h
  ret:∀ e env ds h,SlE n e env→K'.ret e ds h=K.ret env ds h
def toL (e:Sl):Nat→Nat→List AV
  | 0,_=>[]
  | n+1,i=>UZ e i::toL e n (i+1)
theorem QcL (e:Sl):∀ (n i j:Nat),(toL e n i)[j]?=if j < n then some (UZ e (i+j)) else none
  | 0,i,j=>rfl
  | n+1,i,0=>by rw [if_pos (by omega)];rfl
  | n + 1, i, j + 1 => by
    show (toL e n (i+1))[j]?=_
    rw [QcL e n (i+1) j]
    by_cases hj:j < n
    · rw [if_pos hj,if_pos (by omega),(by omega:i+1+j=i+(j+1))]
    · rw [if_neg hj,if_neg (by omega)]
theorem toL_eq {n:Nat} {e:Sl} {env:List AV} (h:SlE n e env):toL e n 0=env:=by
  apply List.ext_getElem?
  intro j
  rw [QcL,h.get,Z5,Nat.zero_add,← h.len]
  by_cases hj:j < env.length
  · rw [if_pos hj,List.getElem?_eq_getElem hj,List.getD_eq_getElem?_getD,List.getElem?_eq_getElem hj];rfl
  · rw [if_neg hj,List.getElem?_eq_none (by omega)]
def JC (id0 id1:Nat) (K:KsS) (e:Sl) (ds:List Dfr) (h:H):Prop :=
  match h.get id1 with
  | .loop .busy _ _ _ _ _=>False
  | .loop _ pend _ _ _ _ => Zr id1 .exhausted pend h fun h' => match pend with
    | none=>K.norm e (.coll id0::ds) h'
    | some .ret=>K.ret e (.coll id0::ds) h'
    | some (.exit i)=>K.exit i e (.coll id0::ds) h'
    | _=>False
  | _=>False
theorem endRangeS_eq {n:Nat} {K':KsS} {K:Ks} (hK:KsE n K' K) {e:Sl} {env:List AV} (hE:SlE n e env) (id0 id1:Nat) (ds:List Dfr) (h:H):JC id0 id1 K' e ds h=Vu id0 id1 K env ds h:=by
  unfold JC Vu
  simp only [hK.norm _ _ _ _ hE,hK.ret _ _ _ _ hE,hK.exit _ _ _ _ _ hE]
  rfl
def Yo (lv:Nat→List Nat→List Nat) (rd:Code→Lv→List Nat) (n:Nat) (b:Code) (L:Lv):List Nat:=lv n (rd b L)
def JP (lv:Nat→List Nat→List Nat) (rd:Code→Lv→List Nat) (X:Ty→Gam→Nat→Op→(Operand→AV)→H→(AV→H→Prop)→Prop) (T:Ty) (G:Gam) (top:Bool) (n:Nat) (c:Code):Lv→KsS→Sl→List Dfr→H→Prop :=
  Code.rec (motive:=fun _=>Lv→KsS→Sl→List Dfr→H→Prop)
    (fun _ K e ds h=>K.norm e ds h)
    (fun _ ops draw _ K e ds h=>match draw with
      | false=>Gz X T G top n ops.toList ops.toList e ds h K.norm
      | true => match YH T ops.toList (Qx ops.toList []) (VB T ops.toList) with
        | true=>Yk X T G n ops.toList (Qx ops.toList []) (VB T ops.toList) [] e h fun _ e h=>K.norm e ds h
        | false => match two T ops.toList with
          | some (i, j, C, p, q) => Yk X T G n (QK i j ops.toList) (Qx (QK i j ops.toList) []) C [] e h fun seen e h => asPtr (evS e p) fun a _ => asPtr (evS e q) fun b _ => ck (Bool.not (Nat.beq a b))
            (Yk X T G n (QK j i ops.toList) (Qx (QK j i ops.toList) []) [j,i] seen e h fun _ _ _=>Yk X T G n (QK i j ops.toList) (Qx (QK i j ops.toList) []) [i,j] seen e h fun _ e h=>K.norm e ds h)
          | none=>False)
    (fun a b iha ihb L K e ds h=>match Nat.ble (UT a) 1 with
      | true=>iha ⟨rd b L,L.ex,L.ret⟩ ⟨ihb L K,K.exit,K.ret⟩ e ds h
      | false=>G.J.jd (α:=Tup (Yo lv rd n b L)) (fun v=>ihb L K (mkS (Yo lv rd n b L) v)) fun j=>iha ⟨rd b L,L.ex,L.ret⟩ ⟨fun e ds h=>Jb (Yo lv rd n b L) e fun v=>j v ds h,K.exit,K.ret⟩ e ds h)
    (fun c _ _ iha ihb L K e ds h=>asB (evS e c) fun c=>br c (iha L K e ds h) (ihb L K e ds h))
    (fun id _ ihb L K e ds h=>ihb ⟨L.norm,(id,L.norm)::L.ex,L.ret⟩ ⟨K.norm,fun i e=>match Nat.beq i id with
      | true=>K.norm e
      | false=>K.exit i e,K.ret⟩ e ds h)
    (fun b ihb L K e ds h=>Jb (Yo lv rd n b ⟨[],L.ex,L.ret⟩) e fun v=>G.J.lp (α:=Tup (Yo lv rd n b ⟨[],L.ex,L.ret⟩)) (fun self v=>ihb ⟨rd b ⟨[],L.ex,L.ret⟩,L.ex,L.ret⟩ ⟨fun e ds h=>Jb (Yo lv rd n b ⟨[],L.ex,L.ret⟩) e fun v=>self v ds h,K.exit,K.ret⟩ (mkS (Yo lv rd n b ⟨[],L.ex,L.ret⟩) v)) v ds h)
    (fun g ps a b _ _ _ K e ds h=>match top with
      | true => match evS e g with
        | .func (.func f) first captured=>Qz (.defd true) h fun id0 h=>Qz (.loop .ready none ps.toList a b (toL e n 0)) h fun id1 h=>G.it f (first++(AV.yield id1::captured)) h fun _ h=>JC id0 id1 K e ds h
        | _=>False
      | false=>False)
    (fun id _ K e ds h=>K.exit id e ds h)
    (fun _ ihb L K e ds h=>ihb L K e ds h)
    (fun _ _ K e ds h=>K.norm e ds h)
    (fun _ _ _ _ _ _=>False)
    (fun _ K e ds h=>K.ret e ds h)
    (fun _ _ _ _ _ _=>False) c
theorem denR'_eq (T : Ty) (G : Gam) (top : Bool) (n : Nat) (c : Code) : ∀ (L : Lv) (K' : KsS) (K : Ks), KsE n K' K → ∀ (e : Sl) (env : List AV) (ds : List Dfr) (h : H), SlE n e env → JP live QV opF T G top n c L K' e ds h = den T G top n c L K env ds h := by
  induction c with
  | skip=>intro L K' K hK e env ds h hE;exact hK.norm _ _ _ _ hE
  | label l=>intro L K' K hK e env ds h hE;exact hK.norm _ _ _ _ hE
  | ret=>intro L K' K hK e env ds h hE;exact hK.ret _ _ _ _ hE
  | exit id=>intro L K' K hK e env ds h hE;exact hK.exit _ _ _ _ _ hE
  | goto l=>intro L K' K hK e env ds h hE;rfl
  | refuse w=>intro L K' K hK e env ds h hE;rfl
  | scope b ih=>intro L K' K hK e env ds h hE;exact ih L K' K hK e env ds h hE
  | region id ops draw =>
    intro L K' K hK e env ds h hE
    cases draw with
    | false=>exact Nd T G top n _ _ e env ds h _ _ hE hK.norm
    | true =>
      show (match YH T ops.toList (Qx ops.toList []) (VB T ops.toList) with
        | true=>Yk opF T G n ops.toList (Qx ops.toList []) (VB T ops.toList) [] e h fun _ e h=>K'.norm e ds h
        | false => match two T ops.toList with
          | some (i, j, C, p, q) => Yk opF T G n (QK i j ops.toList) (Qx (QK i j ops.toList) []) C [] e h fun seen e h => asPtr (evS e p) fun a _ => asPtr (evS e q) fun b _ => ck (Bool.not (Nat.beq a b))
            (Yk opF T G n (QK j i ops.toList) (Qx (QK j i ops.toList) []) [j,i] seen e h fun _ _ _=>Yk opF T G n (QK i j ops.toList) (Qx (QK i j ops.toList) []) [i,j] seen e h fun _ e h=>K'.norm e ds h)
          | none=>False)=(match YH T ops.toList (Qx ops.toList []) (VB T ops.toList) with
        | true=>QB T G ops.toList (Qx ops.toList []) (VB T ops.toList) [] env h fun _ env h=>K.norm env ds h
        | false => match two T ops.toList with
          | some (i, j, C, p, q) => QB T G (QK i j ops.toList) (Qx (QK i j ops.toList) []) C [] env h fun seen env h => asPtr (ev env p) fun a _ => asPtr (ev env q) fun b _ => ck (Bool.not (Nat.beq a b))
            (QB T G (QK j i ops.toList) (Qx (QK j i ops.toList) []) [j,i] seen env h fun _ _ _=>QB T G (QK i j ops.toList) (Qx (QK i j ops.toList) []) [i,j] seen env h fun _ env h=>K.norm env ds h)
          | none=>False)
      cases YH T ops.toList (Qx ops.toList []) (VB T ops.toList) with
      | true=>exact Vg T G n _ _ _ [] [] e env h _ _ .nil hE fun _ _ e env h _ hE=>hK.norm _ _ _ _ hE
      | false =>
        cases two T ops.toList with
        | none=>rfl
        | some z =>
          obtain ⟨i,j,C,p,q⟩:=z
          refine Vg T G n _ _ _ [] [] e env h _ _ .nil hE fun s s' e env h hs hE=>?_
          rw [XR hE]
          congr 1;funext a _;congr 1;funext b _;congr 1
          exact Vg T G n _ _ _ s s' e env h _ _ hs hE fun _ _ _ _ _ _ _=>Vg T G n _ _ _ s s' e env h _ _ hs hE fun _ _ e env h _ hE=>hK.norm _ _ _ _ hE
  | seq a b iha ihb =>
    intro L K' K hK e env ds h hE
    show (match Nat.ble (UT a) 1 with
      | true=>JP live QV opF T G top n a ⟨QV b L,L.ex,L.ret⟩ ⟨JP live QV opF T G top n b L K',K'.exit,K'.ret⟩ e ds h
      | false=>G.J.jd (α:=Tup (Yo live QV n b L)) (fun v=>JP live QV opF T G top n b L K' (mkS (Yo live QV n b L) v)) fun j=>JP live QV opF T G top n a ⟨QV b L,L.ex,L.ret⟩ ⟨fun e ds h=>Jb (Yo live QV n b L) e fun v=>j v ds h,K'.exit,K'.ret⟩ e ds h)=(match Nat.ble (UT a) 1 with
      | true=>den T G top n a ⟨QV b L,L.ex,L.ret⟩ ⟨den T G top n b L K,K.exit,K.ret⟩ env ds h
      | false=>G.J.jd (α:=Tup (Yo live QV n b L)) (fun v=>den T G top n b L K (Yv n 0 (Yo live QV n b L) v)) fun j=>den T G top n a ⟨QV b L,L.ex,L.ret⟩ ⟨fun e=>j (UQ (Yo live QV n b L) e),K.exit,K.ret⟩ env ds h)
    cases Nat.ble (UT a) 1 with
    | true=>exact iha ⟨QV b L,L.ex,L.ret⟩ ⟨JP live QV opF T G top n b L K',K'.exit,K'.ret⟩ ⟨den T G top n b L K,K.exit,K.ret⟩ ⟨fun e env ds h hE=>ihb L K' K hK e env ds h hE,hK.exit,hK.ret⟩ e env ds h hE
    | false =>
      show G.J.jd _ _=G.J.jd _ _
      congr 1
      · funext v ds h;exact ihb L K' K hK _ _ ds h (Qey n _ v)
      · funext j;exact iha ⟨QV b L,L.ex,L.ret⟩ ⟨fun e ds h=>Jb (Yo live QV n b L) e fun v=>j v ds h,K'.exit,K'.ret⟩ ⟨fun e=>j (UQ (Yo live QV n b L) e),K.exit,K.ret⟩ ⟨fun e env ds h hE=>KU hE _ _,hK.exit,hK.ret⟩ e env ds h hE
  | cond c a b iha ihb =>
    intro L K' K hK e env ds h hE
    show asB (evS e c) (fun c=>br c (JP live QV opF T G top n a L K' e ds h) (JP live QV opF T G top n b L K' e ds h))=asB (ev env c) (fun c=>br c (den T G top n a L K env ds h) (den T G top n b L K env ds h))
    rw [XR hE,iha L K' K hK e env ds h hE,ihb L K' K hK e env ds h hE]
  | block id b ih =>
    intro L K' K hK e env ds h hE
    refine ih ⟨L.norm,(id,L.norm)::L.ex,L.ret⟩ ⟨K'.norm,fun i e=>match Nat.beq i id with
      | true=>K'.norm e
      | false=>K'.exit i e,K'.ret⟩ ⟨K.norm,fun i e=>match Nat.beq i id with
      | true=>K.norm e
      | false=>K.exit i e,K.ret⟩ ⟨hK.norm,fun i e env ds h hE=>?_,hK.ret⟩ e env ds h hE
    show (match Nat.beq i id with
      | true=>K'.norm e
      | false=>K'.exit i e) ds h=(match Nat.beq i id with
      | true=>K.norm env
      | false=>K.exit i env) ds h
    cases Nat.beq i id with
    | true=>exact hK.norm _ _ _ _ hE
    | false=>exact hK.exit _ _ _ _ _ hE
  | loop b ih =>
    intro L K' K hK e env ds h hE
    show Jb (Yo live QV n b ⟨[],L.ex,L.ret⟩) e (fun v=>G.J.lp (α:=Tup (Yo live QV n b ⟨[],L.ex,L.ret⟩)) (fun self v=>JP live QV opF T G top n b ⟨QV b ⟨[],L.ex,L.ret⟩,L.ex,L.ret⟩ ⟨fun e ds h=>Jb (Yo live QV n b ⟨[],L.ex,L.ret⟩) e fun v=>self v ds h,K'.exit,K'.ret⟩ (mkS (Yo live QV n b ⟨[],L.ex,L.ret⟩) v)) v ds h)
      = G.J.lp (α:=Tup (Yo live QV n b ⟨[],L.ex,L.ret⟩)) (fun self v=>den T G top n b ⟨QV b ⟨[],L.ex,L.ret⟩,L.ex,L.ret⟩ ⟨fun e=>self (UQ (Yo live QV n b ⟨[],L.ex,L.ret⟩) e),K.exit,K.ret⟩ (Yv n 0 (Yo live QV n b ⟨[],L.ex,L.ret⟩) v)) (UQ (Yo live QV n b ⟨[],L.ex,L.ret⟩) env) ds h
    rw [KU hE]
    congr 1
    funext self v ds h
    exact ih ⟨QV b ⟨[],L.ex,L.ret⟩,L.ex,L.ret⟩ ⟨fun e ds h=>Jb (Yo live QV n b ⟨[],L.ex,L.ret⟩) e fun v=>self v ds h,K'.exit,K'.ret⟩ ⟨fun e=>self (UQ (Yo live QV n b ⟨[],L.ex,L.ret⟩) e),K.exit,K.ret⟩ ⟨fun e env ds h hE=>KU hE _ _,hK.exit,hK.ret⟩ _ _ ds h (Qey n _ v)
  | rangeFunc g ps a b iha ihb =>
    intro L K' K hK e env ds h hE
    cases top with
    | false=>rfl
    | true =>
      show (match evS e g with
        | .func (.func f) first captured=>Qz (.defd true) h fun id0 h=>Qz (.loop .ready none ps.toList a b (toL e n 0)) h fun id1 h=>G.it f (first++(AV.yield id1::captured)) h fun _ h=>JC id0 id1 K' e ds h
        | _=>False)=(match ev env g with
        | .func (.func f) first captured=>Qz (.defd true) h fun id0 h=>Qz (.loop .ready none ps.toList a b env) h fun id1 h=>G.it f (first++(AV.yield id1::captured)) h fun _ h=>Vu id0 id1 K env ds h
        | _=>False)
      rw [XR hE,toL_eq hE]
      split
      · congr 1;funext id0 h;congr 1;funext id1 h;congr 1;funext r h;exact endRangeS_eq hK hE id0 id1 ds h
      · rfl
def denS (T:Ty) (G:Gam) (top:Bool) (n:Nat) (c:Code):Lv→KsS→Sl→List Dfr→H→Prop:=JP JO Yt opQ T G top n c
theorem denS_eq (T:Ty) (G:Gam) (top:Bool) (n:Nat) (c:Code) (L:Lv) (K':KsS) (K:Ks) (hK:KsE n K' K) (e:Sl) (env:List AV) (ds:List Dfr) (h:H) (hE:SlE n e env):denS T G top n c L K' e ds h=den T G top n c L K env ds h:=by
  have e1:JO=live:=by funext n L;exact liveF_eq n L
  have e2:Yt=QV:=by funext c L;exact readsF_eq c L
  unfold denS
  rw [e1,e2,opQ_eq]
  exact denR'_eq T G top n c L K' K hK e env ds h hE
def QdR (T:Ty) (e:Sl) (h:H):List ResultVar→List Nat→(List AV→Prop)→Prop
  | [],_,k=>k []
  | r :: l, ts, k => match r, ts with
    | .tmp t,ty::ts=>Wo (T ty).kd (UZ e t) fun v=>QdR T e h l ts fun vs=>k (v::vs)
    | .cell a t,_=>ldK T t (UZ e a) h fun v=>QdR T e h l ts.tail fun vs=>k (v::vs)
    | _,_=>False
theorem QcS {n : Nat} {e : Sl} {env : List AV} (hE : SlE n e env) (T : Ty) (h : H) : ∀ (l : List ResultVar) (ts : List Nat) (k : List AV → Prop), QdR T e h l ts k = Qam T env h l ts k
  | [],_,_=>rfl
  | r :: l, ts, k => by
    have ih:=QcS hE T h l
    cases r with
    | tmp t =>
      cases ts with
      | nil=>rfl
      | cons ty ts =>
        simp only [QdR,Qam,hE.get,ih]
    | cell a t =>
      simp only [QdR,Qam,hE.get,ih]
def U1 (T:Ty) (rs:List ResultVar) (ts:List Nat) (e:Sl) (h:H) (k:AV→H→Prop):Prop :=
  QdR T e h rs ts fun vs=>match vs with
    | [v]=>k v h
    | vs=>k (.tuple vs) h
def D7:Nat→List AV→Sl
  | _,[]=>.nil
  | i,a::l=>.cons i a (D7 (i+1) l)
theorem D6:∀ (l:List AV) (i j:Nat),UZ (D7 i l) (i+j)=l.getD j .junk
  | [],_,_=>rfl
  | a::l,i,0=>by unfold D7;rw [W7,if_pos (by omega)];rfl
  | a :: l, i, j + 1 => by
    unfold D7
    rw [W7,if_neg (by omega),(by omega:i+(j+1)=i+1+j),D6 l (i+1) j];simp
theorem argsS_eq {n:Nat} {l:List AV} (h:l.length≤n):SlE n (D7 0 l) (Gh n l):=by
  refine ⟨by rw [KF n l h];simp;omega,fun t=>?_⟩
  rw [Z5,KF n l h,← Nat.zero_add t,D6 l 0 t,Nat.zero_add]
  by_cases ht:t < l.length
  · simp [List.getD_eq_getElem?_getD,List.getElem?_append_left ht,ht]
  · rw [List.getD_eq_getElem?_getD, List.getD_eq_getElem?_getD, List.getElem?_append_right (by omega), List.getElem?_replicate, List.getElem?_eq_none (by omega)]
    split <;> rfl
def Wb (T:Ty) (G:Gam) (f:Func):Fun:=fun args h k=>
  match f.body,Nat.ble args.length f.ntmps with
  | some c,true=>denS T G true f.ntmps c ⟨Zm f.results.toList,[],Zm f.results.toList⟩ ⟨fun e ds h=>Qu G ds h fun h=>U1 T f.results.toList f.resultTypes.toList e h k,fun _ _ _ _=>False,fun e ds h=>Qu G ds h fun h=>U1 T f.results.toList f.resultTypes.toList e h k⟩ (D7 0 args) [] h
  | _,_=>False
theorem denFS_eq (T:Ty) (G:Gam) (f:Func):Wb T G f=Zl T G f:=by
  funext args h k
  have hr:∀ (e:Sl) (env:List AV) (ds:List Dfr) (h:H),SlE f.ntmps e env→(Qu G ds h fun h=>U1 T f.results.toList f.resultTypes.toList e h k)=(Qu G ds h fun h=>Zf T f.results.toList f.resultTypes.toList env h k):=fun e env ds h hE=>by
    congr 1;funext h;exact QcS hE T h _ _ _
  unfold Wb Zl
  cases f.body with
  | none=>rfl
  | some c =>
    cases hn:Nat.ble args.length f.ntmps with
    | false=>rfl
    | true =>
      exact denS_eq T G true f.ntmps c ⟨Zm f.results.toList,[],Zm f.results.toList⟩ ⟨fun e ds h=>Qu G ds h fun h=>U1 T f.results.toList f.resultTypes.toList e h k,fun _ _ _ _=>False,fun e ds h=>Qu G ds h fun h=>U1 T f.results.toList f.resultTypes.toList e h k⟩ ⟨fun env ds h=>Qu G ds h fun h=>Zf T f.results.toList f.resultTypes.toList env h k,fun _ _ _ _=>False,fun env ds h=>Qu G ds h fun h=>Zf T f.results.toList f.resultTypes.toList env h k⟩ ⟨hr,fun _ _ _ _ _ _=>rfl,hr⟩ _ _ [] h (argsS_eq ((Qk _ _).1 hn))
theorem Ya {P:Program} {T:Ty} (hT:YN P T) (hm:P.follows .mixedOrders=true) {G:Gam} (hG:Wm P G) {f:FuncId} {fn:Func} (hf:P.funcs[f]?=some fn) (hcall:∀ args w,(callFunc f args).run P w=.ok (.enter f args) w):Qt P f (Wb T G fn):=by
  rw [denFS_eq];exact QA hT hm hG hf hcall
end Go.Am
namespace Go.Am
open Go
structure Low (n:Nat) (h h':H):Prop where
  base:h'.base=h.base
  next:h.next≤h'.next
  get:∀ id,id < n→h'.get id=h.get id
theorem Low.refl (n:Nat) (h:H):Low n h h:=⟨rfl,Nat.le_refl _,fun _ _=>rfl⟩
theorem Low.trans {n:Nat} {h h1 h2:H} (a:Low n h h1) (b:Low n h1 h2):Low n h h2:=⟨b.base.trans a.base,Nat.le_trans a.next b.next,fun id hi=>(b.get id hi).trans (a.get id hi)⟩
theorem Low.down {n m:Nat} {h h1:H} (a:Low n h h1) (hm:m≤n):Low m h h1:=⟨a.base,a.next,fun id hi=>a.get id (by omega)⟩
def QI (h:H) (b:Blk):H:=⟨Tr.set h.mem h.next b,Nat.succ h.next,h.base⟩
def Zt (h:H) (i:Nat) (b:Blk):H:=⟨Tr.set h.mem i b,h.next,h.base⟩
theorem U4 (h:H) (b:Blk):(QI h b).next=h.next+1:=rfl
theorem pushed_base (h:H) (b:Blk):(QI h b).base=h.base:=rfl
theorem ZG (h:H) (b:Blk) (id:Nat):(QI h b).get id=if id=h.next then b else h.get id:=by
  rw [H.get_eq,H.get_eq]
  show (if id < h.next+1 then Tr.get (Tr.set h.mem h.next b) id else .dead)=_
  rw [Tr.get_set]
  by_cases h1:id=h.next
  · subst h1;rw [if_pos (by omega),if_pos rfl,if_pos rfl]
  · rw [if_neg h1, if_neg h1]
    by_cases h2:id < h.next
    · rw [if_pos (by omega),if_pos h2]
    · rw [if_neg (by omega),if_neg h2]
theorem WG (h:H) (i:Nat) (b:Blk):(Zt h i b).next=h.next:=rfl
theorem QU (h:H) (i:Nat) (b:Blk) (hi:i < h.next) (id:Nat):(Zt h i b).get id=if id=i then b else h.get id:=by
  rw [H.get_eq,H.get_eq]
  show (if id < h.next then Tr.get (Tr.set h.mem i b) id else .dead)=_
  rw [Tr.get_set]
  by_cases h1:id=i
  · subst h1;rw [if_pos hi,if_pos rfl,if_pos rfl]
  · rw [if_neg h1,if_neg h1]
theorem QW (b:Blk) (h:H) (k:Nat→H→Prop):Qz b h k=k h.next (QI h b):=Ni b h k
theorem YX {i:Nat} {b:Blk} {h:H} (k:H→Prop) (h1:i < h.next) (h2:h.base≤i):Yy i b h k=k (Zt h i b):=by
  cases h with | mk m n bs=>
  have a1:Nat.blt i n=true:=by rw [QH];exact h1
  have a2:Nat.ble bs i=true:=by rw [Qk];exact h2
  show ck (Nat.blt i n) (ck (Nat.ble bs i) (Tr.setK m i b fun m'=>k ⟨m',n,bs⟩))=_
  rw [a1,a2,Tr.setK_eq];rfl
theorem Low.push (n:Nat) (h:H) (b:Blk) (hn:n≤h.next):Low n h (QI h b):=⟨rfl,Nat.le_succ _,fun id hi=>by rw [ZG,if_neg (by omega)]⟩
theorem Low.put {n:Nat} {h:H} {i:Nat} (b:Blk) (hi:i < h.next) (hn:n≤i):Low n h (Zt h i b):=⟨rfl,Nat.le_refl _,fun id hl=>by rw [QU h i b hi,if_neg (by omega)]⟩
theorem QP {c:Bool} {a b:Prop} (h1:c=true→a) (h2:c=false→b):br c a b:=by
  cases c
  · exact h2 rfl
  · exact h1 rfl
theorem Qp {c:Bool} {a:Prop} (h1:c=true) (h2:a):ck c a:=by rw [h1];exact h2
theorem Qa (kk:IntKind) (n:Int) (k:Int→Prop):asI kk (.int kk n) k=k n:=by
  show ck (keq kk kk) (k n)=_
  rw [(W3.2 rfl:keq kk kk=true)];rfl
theorem Wk (s:Str) (k:Str→Prop):asS (.str s) k=k s:=rfl
theorem Qm (b:Bool) (k:Bool→Prop):asB (.bool b) k=k b:=rfl
theorem ZZ (l:List AV) (k:List AV→Prop):Go.Am.asAgg (.agg l) k=k l:=rfl
theorem Yi (l:List AV) (k:List AV→Prop):Go.Am.asTup (.tuple l) k=k l:=rfl
theorem Qy {α:Type} (a:α) (k:α→Prop):op' (some a) k=k a:=rfl
theorem DX (i o:Nat) (k:Nat→Nat→Prop):Go.Am.asPtr (.ptr i o) k=k i o:=rfl
theorem W9 (n:Prop) (k:Nat→Nat→Nat→Nat→Nat→Bool→Prop):Gw .nils n k=n:=rfl
theorem Zu (i o l c e:Nat) (x:Bool) (n:Prop) (k:Nat→Nat→Nat→Nat→Nat→Bool→Prop):Gw (.slice i o l c e x) n k=k i o l c e x:=rfl
theorem Z6 (m:Bool) (t:Nat) (cs:List AV) (k1:Bool→Nat→List AV→Prop) (k2:Nat→Nat→Bool→Str→Prop):ZX (.cells m t cs) k1 k2=k1 m t cs:=rfl
theorem WQ (t f:Nat) (g:Bool) (s:Str) (k1:Bool→Nat→List AV→Prop) (k2:Nat→Nat→Bool→Str→Prop):ZX (.bytes t f g s) k1 k2=k2 t f g s:=rfl
theorem X5 (kk:IntKind) (n:Nat) (k:Nat→Prop):YU (.int kk (Int.ofNat n)) k=k n:=rfl
theorem NE {α:Type} {j:α→List Dfr→H→Prop} {b:(α→List Dfr→H→Prop)→Prop} (P:α→List Dfr→H→Prop) (hb:∀ j',(∀ v d h,P v d h→j' v d h)→b j') (hj:∀ v d h,P v d h→j v d h):J0.jd j b:=hb _ hj
theorem W0 {α:Type} {body:(α→List Dfr→H→Prop)→α→List Dfr→H→Prop} (Inv:Nat→α→List Dfr→H→Prop)
    (hstep:∀ n self v d h,Inv n v d h→(∀ n' v' d' h',n' < n→Inv n' v' d' h'→self v' d' h')→body self v d h) {n:Nat} {v:α} {d:List Dfr} {h:H} (hn:n < fuel) (hi:Inv n v d h):J0.lp body v d h:=by
  rw [J0.lp_ok]
  have go:∀ f n v d h,n < f→Inv n v d h→KH body f v d h:=by
    intro f
    induction f with
    | zero=>intro n v d h hn;omega
    | succ f ih =>
      intro n v d h hn hi
      exact hstep n (KH body f) v d h hi fun n' v' d' h' hlt hi'=>ih n' v' d' h' (by omega) hi'
  exact go fuel n v d h hn hi
def Row (g:Bool) (e n:Nat) (h:H) (v:AV) (l:List UInt8):Prop :=
  (v=.nils∧l=[])∨∃ id ex sg,v=.slice id 0 l.length l.length 1 ex∧n≤id∧id < h.next∧h.get id=.bytes e 0 sg (Str.of l)∧(g=false→sg=false)
theorem Row.nil (g:Bool) (e n:Nat) (h:H):Row g e n h .nils []:=.inl ⟨rfl,rfl⟩
theorem Row.down {g:Bool} {e n m:Nat} {h:H} {v:AV} {l:List UInt8} (r:Row g e n h v l) (hm:m≤n):Row g e m h v l:=by
  rcases r with r | ⟨id,ex,sg,r1,r2,r3⟩
  · exact .inl r
  · exact .inr ⟨id,ex,sg,r1,by omega,r3⟩
theorem Row.low {g:Bool} {e n m:Nat} {h h':H} {v:AV} {l:List UInt8} (r:Row g e n h v l) (hl:Low m h h') (hm:h.next≤m):Row g e n h' v l:=by
  rcases r with r | ⟨id,ex,sg,r1,r2,r3,r4,r5⟩
  · exact .inl r
  · exact .inr ⟨id,ex,sg,r1,r2,by have:=hl.next;omega,by rw [hl.get id (by omega)];exact r4,r5⟩
theorem Ws (l:List UInt8):(Str.of l).len=l.length:=rfl
theorem of_nil:(⟨0,0⟩:Str)=Str.of []:=rfl
theorem of_one (c:UInt8):(⟨1,c.toNat⟩:Str)=Str.of [c]:=by simp [Str.of,Str.num]
theorem Row.push {g:Bool} {e n:Nat} {h:H} {l:List UInt8} (sg ex:Bool) (hn:n≤h.next) (hg:g=false→sg=false:=by intro h;first | rfl | (cases h;done)):Row g e n (QI h (.bytes e 0 sg (Str.of l))) (.slice h.next 0 l.length l.length 1 ex) l :=
  .inr ⟨h.next,ex,sg,rfl,hn,by rw [U4];omega,by rw [ZG,if_pos rfl],hg⟩
theorem Row.str {g:Bool} {e n:Nat} {h:H} {v:AV} {l:List UInt8} (r:Row g e n h v l) (k:Str→Prop):Y1 v h k=k (Str.of l):=by
  rcases r with ⟨rfl,rfl⟩ | ⟨id,ex,sg,rfl,r2,r3,r4,r5⟩
  · rfl
  · unfold Y1
    rw [Zu,r4,WQ,Zb]
    show ck (Nat.ble (0+l.length) l.length) _=_
    have:Nat.ble (0+l.length) l.length=true:=by rw [Qk];omega
    rw [this,Vt]
    show k ((Str.of l).sub 0 (0+l.length))=_
    rw [Str.sub_of l 0 _ (by omega) (by omega)]
    congr 2;simp
theorem VY {g:Bool} {t e n:Nat} {h:H} {v:AV} {l:List UInt8} (r:Row g e n h v l) (k:Str→Prop):Qb9 (.slice t) v h k=k (Str.of l):=r.str k
theorem YZ {g : Bool} {kd : Kd} {e n : Nat} {h : H} {v x : AV} {l m : List UInt8} {k : AV → H → Prop} (r : Row g e n h v l) (hb : h.base ≤ n) (hn : n ≤ h.next)
    (hx:∀ f:Str→Prop,Qb9 kd x h f=f (Str.of m)) (hl:l.length+m.length≤Qe) (hk:∀ v' h',Row g e n h' v' (l++m)→Low n h h'→k v' h'):apB kd e v x h k:=by
  unfold apB
  rw [hx]
  rcases r with ⟨rfl,rfl⟩ | ⟨id,ex,sg,rfl,r2,r3,r4,r5⟩
  · rw [W9, Ws]
    refine QP (fun h0=>?_) fun h0=>Qp ?_ ?_
    · rw [Nat.beq_eq] at h0
      obtain rfl:=List.length_eq_zero_iff.1 h0
      exact hk _ _ (Row.nil g e n h) (Low.refl n h)
    · rw [Qk];simpa using hl
    · rw [QW]
      exact hk _ _ (Row.push false false hn (fun _=>rfl)) (Low.push n h _ hn)
  · rw [Zu, r4, WQ, Zb, Zb, Ws]
    refine QP (fun h0=>?_) fun h0=>?_
    · have h0 : l.length + m.length ≤ l.length := (Qk _ _).1 h0
      obtain rfl:m=[]:=List.length_eq_zero_iff.1 (by omega)
      exact hk _ _ (by rw [List.append_nil];exact .inr ⟨id,ex,sg,rfl,r2,r3,r4,r5⟩) (Low.refl n h)
    · refine Qp (by rw [Qk]; exact hl) (Qp (by rw [Qk]; show 0 + l.length ≤ l.length; omega) ?_)
      rw [Vt]
      have e1:((Str.of l).sub 0 (Nat.add 0 l.length)).cat (Str.of m)=Str.of (l++m):=by
        show ((Str.of l).sub 0 (0+l.length)).cat (Str.of m)=_
        rw [Str.sub_of l 0 _ (by omega) (by omega),Str.cat_of]
        congr 2;simp
      rw [e1]
      have e2:Nat.add l.length m.length=(l++m).length:=by simp
      rw [e2]
      refine QP (fun _=>?_) fun _=>?_
      · rw [QW]
        exact hk _ _ (Row.push false false hn (fun _=>rfl)) (Low.push n h _ hn)
      · refine Qp rfl (Qp (by rw [Nat.beq_eq]) (Qp ?_ ?_))
        · show apB.br' _ _ _ = true
          unfold apB.br'
          cases Nat.blt 0 l.length
          · rfl
          · show Nat.ble 0 _ = true
            rw [Qk];exact Nat.zero_le _
        · rw [YX _ r3 (by omega), QW]
          have h1:=Low.put (n:=n) (h:=h) .dead r3 r2
          have h2:=Low.push n (Zt h id .dead) (.bytes e 0 sg (Str.of (l++m))) hn
          exact hk _ _ (Row.push sg false hn r5) (h1.trans h2)
theorem Zi {kk:IntKind} {m:Nat} (h:m < kHi kk):Qd kk (Int.ofNat m)=Int.ofNat m:=by rw [Z2];exact Kn kk m h
theorem Gx (n:Int):Qd .u8 n=n % 256:=by rw [Z2];simp [IntKind.wrap,IntKind.bits,IntKind.signed]
theorem WC {n:Int} (h1:-9223372036854775808≤n) (h2:n < 9223372036854775808):Qd .i64 n=n:=by
  obtain ⟨q,h3,h4,h5⟩:=UU n;omega
theorem WK {a b:Int}:ltI a b=true ↔ a < b:=by rw [Vm];simp
theorem Ys {a b:Int}:ltI a b=false ↔ b≤a:=by rw [Vm];simp
theorem Zp {a b:Int}:eqI a b=true ↔ a=b:=by rw [WV];simp
theorem Q4 {a b:Int}:eqI a b=false ↔ a≠b:=by rw [WV];simp
theorem not_true {b:Bool}:Bool.not b=true ↔ b=false:=by cases b <;> simp
theorem ZT {b:Bool}:Bool.not b=false ↔ b=true:=by cases b <;> simp
def bI (c:UInt8):Int:=Int.ofNat c.toNat
theorem Qb1 (n:Nat):bI (UInt8.ofNat n)=Int.ofNat (n % 256):=by simp [bI]
theorem Ge:∀ l:List UInt8,YW (l.map fun c=>AV.int .u8 (bI c))=some (Str.of l)
  | []=>rfl
  | c :: l => by
    have hc:=c.toNat_lt
    show (Bool.rec none (match YW (l.map fun c=>AV.int .u8 (bI c)) with | some s=>some (Str.cat ⟨1,c.toNat⟩ s) | none=>none) (Nat.blt c.toNat 256):Option Str)=_
    rw [Ge l,(QH _ _).2 (by omega),of_one]
    show some (Str.cat (Str.of [c]) (Str.of l))=_
    rw [Str.cat_of];rfl
theorem X1 (e:Nat) (l:List UInt8):Wd true e (l.map fun c=>AV.int .u8 (bI c))=some (.bytes e 0 false (Str.of l)):=by
  show (match YW (l.map fun c=>AV.int .u8 (bI c)) with | some s=>some (Blk.bytes e 0 false s) | none=>none)=_
  rw [Ge]
theorem Qfe {g:Bool} {e n:Nat} {h:H} {row:AV} {l m:List UInt8} {k:AV→H→Prop} (r:Row g e n h row l) (hb:h.base≤n) (hn:n≤h.next) (hl:l.length+m.length≤Qe) (hk:∀ v' h',Row g e n h' v' (l++m)→Low n h h'→k v' h') :
    op' (Wd true e (m.map fun c=>AV.int .u8 (bI c))) (fun b=>Qz b h fun i h1=>apB (.slice e) e row (.slice i 0 m.length m.length 1 true) h1 k):=by
  rw [X1,Qy,QW]
  have r1:Row false e n (QI h (.bytes e 0 false (Str.of m))) (.slice h.next 0 m.length m.length 1 true) m:=Row.push false true hn (fun _=>rfl)
  have l1:=Low.push h.next h (.bytes e 0 false (Str.of m)) (Nat.le_refl _)
  exact YZ (r.low l1 (Nat.le_refl _)) (by rw [pushed_base];exact hb) (by rw [U4];omega) (fun f=>VY r1 f) hl fun v' h' r' l'=>hk v' h' r' ((l1.down hn).trans l')
theorem ap_str {g:Bool} {e n:Nat} {h:H} {row:AV} {l m:List UInt8} {k:AV→H→Prop} (r:Row g e n h row l) (hb:h.base≤n) (hn:n≤h.next) (hl:l.length+m.length≤Qe) (hk:∀ v' h',Row g e n h' v' (l++m)→Low n h h'→k v' h') :
    apB .str e row (.str (Str.of m)) h k:=YZ r hb hn (fun f=>rfl) hl hk
theorem QeH {m:List UInt8} {i:Nat} (h:i < m.length) {kk:IntKind} (k:Int→Prop):WN (.str (Str.of m)) (.int kk (Int.ofNat i)) k=k (bI m[i]):=by
  show ck (Nat.blt i m.length) (fN ((Str.of m).get i) fun c=>k (Int.ofNat c))=_
  rw [(QH _ _).2 h,Zb,Str.get_of _ _ h];rfl
theorem eqI_b0 (c:UInt8):eqI (bI c) (Int.ofNat 0)=decide (c=0):=by
  rw [WV]
  by_cases h:c=0
  · subst h;rfl
  · rw [decide_eq_false h, beq_eq_false_iff_ne]
    intro h2
    have h2:Int.ofNat c.toNat=Int.ofNat 0:=h2
    injection h2 with h2
    exact h (UInt8.toNat_inj.1 h2)
theorem ofNat_bI (n:Nat):Qd .u8 (Int.ofNat n)=bI (UInt8.ofNat n):=by
  rw [Gx,Qb1];rfl
theorem WA (x n:Nat):Ve (Int.ofNat x) n=Int.ofNat (x >>> n):=rfl
theorem or128:∀ b,b < 256→Uv .u8 (Int.ofNat b) (Int.ofNat 128)=Int.ofNat (b % 128+128):=by decide +kernel
theorem or128_bI (y:Nat):Uv .u8 (Qd .u8 (Int.ofNat y)) (Int.ofNat 128)=bI (UInt8.ofNat (y % 128+128)):=by
  have h:Qd .u8 (Int.ofNat y)=Int.ofNat (y % 256):=by rw [Gx];rfl
  rw [h,or128 _ (Nat.mod_lt _ (by decide)),Qb1]
  have h1:y % 256 % 128=y % 128:=by omega
  rw [h1,Nat.mod_eq_of_lt (a:=y % 128+128) (by omega)]
theorem Zy {o:Option AV} {v:AV} (h:o=some v) (hs:AV.same v v=true):Zz o v=true:=by rw [h];exact hs
theorem Q1 {h:H} {i o:Nat} {m:Bool} {t:Nat} {cs:List AV} {v:AV} (g:h.get i=.cells m t cs) (e:Q8 cs o=some v) (k:AV→Prop):ldV (.ptr i o) h k=k v:=by
  show ZX (h.get i) _ _=_
  rw [g];show op' (Q8 cs o) k=_
  rw [e];rfl
theorem Q9 {h:H} {i o:Nat} {m:Bool} {t:Nat} {cs:List AV} {kk:IntKind} {x:Int} (g:h.get i=.cells m t cs) (e:Q8 cs o=some (.int kk x)) (k:Int→Prop):ldI kk (.ptr i o) h k=k x:=by
  unfold ldI;rw [Q1 g e,Qa]
theorem YP {h:H} {i o:Nat} {m:Bool} {t:Nat} {cs:List AV} {x:Str} (g:h.get i=.cells m t cs) (e:Q8 cs o=some (.str x)) (k:Str→Prop):ldS (.ptr i o) h k=k x:=by
  unfold ldS;rw [Q1 g e,Wk]
theorem Wv {h:H} {i o:Nat} {m:Bool} {t:Nat} {cs:List AV} {x:Bool} (g:h.get i=.cells m t cs) (e:Q8 cs o=some (.bool x)) (k:Bool→Prop):ldB (.ptr i o) h k=k x:=by
  unfold ldB;rw [Q1 g e,Qm]
theorem YB {h:H} {i o n:Nat} {m:Bool} {t:Nat} {cs l:List AV} (g:h.get i=.cells m t cs) (e:Z4 n (Yh o cs)=some l) (k:List AV→Prop):ldN n (.ptr i o) h k=k l:=by
  show ZX (h.get i) _ _=_
  rw [g];show op' (Z4 n (Yh o cs)) k=_
  rw [e];rfl
theorem JY {h:H} {i o:Nat} {m:Bool} {t:Nat} {cs cs':List AV} {x:AV} (g:h.get i=.cells m t cs) (h1:ZB x=true) (e:Q7 o [x] cs=some cs') (hi:i < h.next) (hb:h.base≤i) (k:H→Prop):stV (.ptr i o) x h k=k (Zt h i (.cells m t cs')):=by
  show ZX (h.get i) _ _=_
  rw [g];show ck (ZB x) (op' (Q7 o [x] cs) fun cs'=>Yy i (.cells m t cs') h k)=_
  rw [h1,e];show Yy i _ h k=_
  exact YX k hi hb
theorem Qaf {h:H} {i o n:Nat} {m:Bool} {t:Nat} {cs cs' xs:List AV} (g:h.get i=.cells m t cs) (h0:xs.length=n) (h1:ZV xs=true) (e:Q7 o xs cs=some cs') (hi:i < h.next) (hb:h.base≤i) (k:H→Prop):stN n (.ptr i o) xs h k=k (Zt h i (.cells m t cs')):=by
  show ZX (h.get i) _ _=_
  rw [g];show ck (Nat.beq xs.length n) (ck (ZV xs) (op' (Q7 o xs cs) fun cs'=>Yy i (.cells m t cs') h k))=_
  rw [h1,e,(Nat.beq_eq ▸ h0:Nat.beq xs.length n=true)];show Yy i _ h k=_
  exact YX k hi hb
theorem Z1 {h:H} {i o:Nat} {m:Bool} {t:Nat} {cs:List AV} (g:h.get i=.cells m t cs):Zn (.ptr i o) h=Q8 cs o:=by
  unfold Zn;simp only [g]
theorem Qq (j:AV→H→Prop) (b:(AV→H→Prop)→Prop):J0.jn j b=b j:=rfl
theorem Qdn (j:Bool→AV→Prop) (b:(Bool→AV→Prop)→Prop):J0.jb j b=b j:=rfl
theorem Vp {α:Type} (j:α→List Dfr→H→Prop) (b:(α→List Dfr→H→Prop)→Prop):J0.jd j b=b j:=rfl
theorem QO (a b:Prop):br true a b=a:=rfl
theorem Qr (a b:Prop):br false a b=b:=rfl
theorem Uf (a:Prop):ck true a=a:=rfl
theorem Zc (b:Bool) (k:Bool→Prop) (n:Prop):ZW (.bool b) k n=k b:=rfl
theorem JG (k:Bool→Prop) (n:Prop):ZW Qb k n=n:=rfl
theorem QS (a b:AV) (k:Bool→Prop):Q3 (.bool true) a b k=asB a k:=rfl
theorem QF (a b:AV) (k:Bool→Prop):Q3 (.bool false) a b k=asB b k:=rfl
theorem ixK1 {id len cap es i:Nat} {ex:Bool} {kk:IntKind} (hi:i < len) (k:AV→Prop):ixK 1 (.slice id 0 len cap es ex) (.int kk (Int.ofNat i)) k=k (.ptr id i):=by
  show ck (Nat.blt i len) (fN (Nat.add 0 (Nat.mul i 1)) fun o=>k (.ptr id o))=_
  rw [(QH _ _).2 hi,Zb]
  have e:Nat.add 0 (Nat.mul i 1)=i:=by show 0+i * 1=i;omega
  rw [e];rfl
theorem DJ {α:Type}:∀ {l:List α} {i:Nat} (h:i < l.length),Q8 l i=some l[i]
  | a::l,0,_=>rfl
  | a :: l, i + 1, h => by
    show Q8 l i=_
    rw [DJ (l:=l) (i:=i) (by simpa using h)];rfl
theorem QR (i o:Nat) (p:Prop):QQ (.ptr i o) p=p:=rfl
theorem Qw (off i o:Nat) (k:AV→Prop):faK off (.ptr i o) k=k (.ptr i (Nat.add o off)):=by
  show fN (Nat.add o off) (fun o=>k (.ptr i o))=_
  rw [Zb]
theorem GQ (a b:List UInt8):Str.beq (Str.of a) (Str.of b)=decide (a=b):=by
  rw [Str.beq_of]
  cases h:decide (a=b) with
  | true=>rw [of_decide_eq_true h];simp
  | false=>have:=of_decide_eq_false h;simp [this]
end Go.Am
namespace Go.Am
open Go
def UM (μ:Mu) (n:Nat):Mu:=⟨fun id=>if id < n then μ id else none,μ.sz⟩
theorem K7 {μ:Mu} {n id:Nat} (h:id < n):UM μ n id=μ id:=if_pos h
theorem cutMu_ge {μ:Mu} {n id:Nat} (h:n≤id):UM μ n id=none:=if_neg (by omega)
theorem Y5 {μ:Mu} {n id:Nat} {p:Nat × Nat} (h:UM μ n id=some p):id < n∧μ id=some p:=by
  by_cases hi:id < n
  · exact ⟨hi,by rw [← K7 hi];exact h⟩
  · rw [cutMu_ge (by omega)] at h;cases h
structure Sub (h0 h:H):Prop where
  full:h0.base=h0.next
  le:h0.next≤h.base
  get:∀ id,id < h0.next→h0.get id=h.get id
theorem Sub.empty (h:H):Sub H0 h:=⟨rfl,Nat.zero_le _,fun _ hi=>absurd hi (Nat.not_lt_zero _)⟩
theorem BlkRelU.cut {μ : Mu} {w : World} {b d n : Nat} {k : Blk} {u : Bool} (h : BlkRelU u μ w b d k) (hk : (∃ m t cs, k = .cells m t cs ∧ AV.underL n cs) ∨ (∃ t f g s, k = .bytes t f g s) ∨ k = .dead) : BlkRelU u (UM μ n) w b d k := by
  rcases hk with ⟨m,t,cs,rfl,hu⟩ | ⟨t,f,g,s,rfl⟩ | rfl
  · obtain ⟨ccs, fr, h1, h2, h3⟩ := h
    refine ⟨ccs,fr,h1,fun i a ha=>?_,h3⟩
    obtain ⟨v,hv,hr⟩:=h2 i a ha
    refine ⟨v,hv,AV.rel_down (μ:=UM μ n) (μ':=μ) (n:=n) (fun id hi=>⟨(K7 hi).symm,rfl⟩) a v ?_ hr⟩
    have:∀ (l:List AV) (i:Nat) (a:AV),AV.underL n l→l[i]?=some a→AV.under n a:=by
      intro l
      induction l with
      | nil=>intro i a _ h;simp at h
      | cons b l ih =>
        intro i a hu ha
        cases i with
        | zero=>simp at ha;subst ha;exact hu.1
        | succ i=>exact ih i a hu.2 (by simpa using ha)
    exact this cs i a hu ha
  · exact h
  · trivial
def AllRows (h0:H):Prop:=∀ id,id < h0.next→(∃ m t cs,h0.get id=.cells m t cs∧AV.underL h0.next cs)∨(∃ t f g s,h0.get id=.bytes t f g s)∨h0.get id=.dead
theorem AllRows.empty:AllRows H0:=fun _ hi=>absurd hi (Nat.not_lt_zero _)
theorem rel_cut {μ:Mu} {h0 h:H} {w:World} (hr:Rel μ h w) (s:Sub h0 h) (hs:AllRows h0):Rel (UM μ h0.next) h0 w:=by
  refine ⟨⟨by rw [s.full];exact Nat.le_refl _⟩,fun id b d hm=>?_,fun i j b d e hi hj li lj hbj=>?_,fun id b d hm=>?_,fun id b d ccs t fr hm hc=>?_,fun g t cs hg hc=>?_⟩
  · obtain ⟨h1, h2⟩ := Y5 hm
    exact ⟨h1,(hr.dom id b d h2).2⟩
  · obtain ⟨h1, h2⟩ := Y5 hi
    obtain ⟨h3,h4⟩:=Y5 hj
    rw [s.full] at hbj
    exact absurd h3 (Nat.not_lt.2 hbj)
  · obtain ⟨h1, h2⟩ := Y5 hm
    refine BlkRelU.cut ?_ (hs id h1)
    have hf:Nat.ble h0.base id=false:=by
      cases hb:Nat.ble h0.base id
      · rfl
      · rw [Qk,s.full] at hb;omega
    have hf2:Nat.ble h.base id=false:=by
      cases hb:Nat.ble h.base id
      · rfl
      · rw [Qk] at hb;have:=s.le;omega
    have:=hr.blk id b d h2
    rw [hf2] at this
    rw [s.get id h1,hf];exact this
  · obtain ⟨h1, h2⟩ := Y5 hm
    exact hr.cnt id b d ccs t fr h2 hc
  · rw [s.full] at hg
    rw [K7 hg]
    exact hr.glb g t cs (Nat.lt_of_lt_of_le hg s.le) (by rw [← s.get g hg];exact hc)
theorem Rel.same {μ:Mu} {h:H} {w w':World} (hr:Rel μ h w) (hz:w.heap.size≤w'.heap.size) (hb:∀ b,b < w.heap.size→w'.heap[b]?=w.heap[b]?):Rel μ h w':=by
  refine ⟨hr.wf,fun id b d hm=>⟨(hr.dom id b d hm).1,Nat.lt_of_lt_of_le (hr.dom id b d hm).2 hz⟩,hr.inj,fun id b d hm=>?_,fun id b d ccs t fr hm hc=>?_,hr.glb⟩
  · exact BlkRelU.mono (Le.refl μ) (hr.blk id b d hm) fun _=>hb b (hr.dom id b d hm).2
  · rw [hb b (hr.dom id b d hm).2] at hc
    exact hr.cnt id b d ccs t fr hm hc
theorem NX {μ μ1:Mu} {h0 h h1:H} {w w':World} {r:AV} {v:Value} (hR:Rel μ h w) (p:Post (UM μ h0.next) h0 w μ1 h1 w') (hv:r.rel μ1 v) (s:Sub h0 h) (hu:r.under h0.next):r.rel μ v∧Post μ h w μ h w':=by
  have hb:∀ b,b < w.heap.size→w'.heap[b]?=w.heap[b]?:=fun b hlt=>p.frame.block b hlt fun id d h1 h2=>by
    obtain ⟨h3,_⟩:=Y5 h2
    rw [s.full] at h1
    exact absurd h3 (Nat.not_lt.2 h1)
  refine ⟨?_,⟨fun _ _=>⟨rfl,rfl⟩,hR.same p.frame.size hb,⟨p.frame.os,p.frame.tape,p.frame.output,p.frame.size,fun b hlt _=>hb b hlt⟩,Grows.refl μ h,fun id b d hi hm=>absurd (hR.dom id b d hm).1 (by omega)⟩⟩
  have h2:=AV.rel_down (μ:=UM μ h0.next) (μ':=μ1) (n:=h0.next) p.ext r v hu hv
  exact AV.rel_mono (μ:=UM μ h0.next) (μ':=μ) (fun id p hm=>⟨(Y5 hm).2,rfl⟩) r v h2
def Qff (g:Fun):Fun:=fun as h k=>∃ h0,Sub h0 h∧AllRows h0∧AV.underL h0.next as∧g as h0 fun r _=>AV.under h0.next r∧k r h
theorem Qt.alone {P:Program} {f:FuncId} {g:Fun} (hg:Qt P f g):Qt P f (Qff g):=by
  intro as h Q ⟨h0,s,hs,hu,e⟩ μ w args hR ha
  have hR0:=rel_cut hR s hs
  have ha0:AV.relL (UM μ h0.next) as args.toList:=AV.relL_down (μ:=UM μ h0.next) (μ':=μ) (n:=h0.next) (fun id hi=>⟨(K7 hi).symm,rfl⟩) as _ hu ha
  rcases hg as h0 _ e (UM μ h0.next) w args hR0 ha0 with ⟨v,w',μ1,r,h1,q1,q2,q3,q4,q5⟩ | ⟨q1,q2⟩
  · obtain ⟨r1, r2⟩ := NX hR q3 q2 s q4
    exact .inl ⟨v,w',μ,r,h,q1,r1,r2,q5⟩
  · refine .inr ⟨q1, Calls.mono q2 fun e w' ⟨v, μ1, r, h1, p1, p2, p3, p4, p5⟩ => ?_⟩
    obtain ⟨r1,r2⟩:=NX hR p3 p2 s p4
    exact ⟨v,μ,r,h,p1,r1,r2,p5⟩
end Go.Am
namespace Go.Am
open Go Go.ChangeShapes Go.WideShapes Go.RowKit
theorem rowAt_le {P : Program} {fits : TypeId → Bool} : ∀ {d : Nat} {e : TypeId} {count off n : Nat}, rowAt P fits d e count off n = true → off ≤ count * P.cellsOf e
  | 0,_,_,_,_,h=>by unfold rowAt at h;cases h
  | d + 1, e, count, off, n, h => by
    unfold rowAt at h
    simp only at h
    split at h
    · cases h
    · rename_i hs
      have hs:0 < P.cellsOf e:=Nat.pos_of_ne_zero hs
      have hdm:=Nat.div_add_mod off (P.cellsOf e)
      have hml:=Nat.mod_lt off hs
      rw [Bool.or_eq_true] at h
      rcases h with h | h
      · simp only [Bool.and_eq_true, beq_iff_eq, decide_eq_true_eq] at h
        have h1:=Nat.mul_le_mul_right (P.cellsOf e) (show off / P.cellsOf e≤count by omega)
        rw [Nat.mul_comm (off / P.cellsOf e)] at h1;omega
      · rw [Bool.and_eq_true, decide_eq_true_eq] at h
        have h1:=Nat.mul_le_mul_right (P.cellsOf e) (show off / P.cellsOf e+1≤count by omega)
        rw [Nat.add_mul,Nat.mul_comm (off / P.cellsOf e)] at h1;omega
theorem DI {P:Program}:∀ {d:Nat} {e:TypeId} {count off:Nat} {u:TypeId} {n:Nat},liesAt P d e count off u n=true→off≤count * P.cellsOf e
  | 0,_,_,_,_,_,h=>by unfold liesAt at h;cases h
  | d + 1, e, count, off, u, n, h => by
    unfold liesAt at h
    rw [Bool.or_eq_true] at h
    rcases h with h | h
    · exact rowAt_le h
    · split at h
      · exact DI h
      · cases h
theorem has_row {P:Program} {w:World} {r:Reach} {base:Nat} {a:Addr} {e:TypeId} {n:Nat} (h:w.has P r base a e n):a.spot=none∧∃ ccs t fr,w.heap[a.block]?=some (.cells ccs t fr)∧a.off≤ccs.size:=by
  obtain ⟨_,h1,row,cells,h2,h3⟩:=h
  refine ⟨h1,?_⟩
  unfold World.shape? at h2
  split at h2
  · rename_i ccs t fr hc
    injection h2 with h2;injection h2 with e1 e2;subst e1 e2
    refine ⟨ccs,t,fr,hc,?_⟩
    have:=DI h3
    have h4:=Nat.div_mul_le_self ccs.size (P.cellsOf t)
    omega
  · cases h2
section
variable {H':Type} {enc:TypeId × Value→H'} {P:Program} {w:World} {base:Nat} {sp:Nat→Bool} {hd:Bool}
theorem Gd {t:TypeId} {fuel:Nat} {v:Value} {y:DataW H' × List MemPlace} (ht:P.underlying t=some .string) (h:DataW.trod enc P w base sp hd fuel t [v]=some y):∃ s,v=.string s∧s.size≤maxLen:=by
  cases fuel with
  | zero=>unfold DataW.trod at h;cases h
  | succ fuel =>
    unfold DataW.trod at h
    simp only [ht] at h
    cases v <;> simp only at h <;> first | (cases h;done) | skip
    split at h
    · rename_i hs;exact ⟨_,rfl,hs⟩
    · cases h
theorem cell_add {b o i:Nat} {ccs:Array Value} {t:TypeId} {fr:Nat × Nat} {v:Value} (hb:w.heap[b]?=some (.cells ccs t fr)) (h:w.cell? ((⟨b,o,none⟩:Addr).add i)=some v):ccs[o+i]?=some v:=by
  have e:(⟨b,o,none⟩:Addr).add i=⟨b,o+i,none⟩:=by
    unfold Addr.add;split
    · rename_i h0;subst h0;rfl
    · rfl
  rw [e] at h
  unfold World.cell? at h
  simp only [hb] at h
  exact h
end
end Go.Am
namespace Go.Am
open Go
mutual
def AV.flat:AV→Bool
  | .bool _=>true
  | .int _ _=>true
  | .str _=>true
  | .nilp=>true
  | .nils=>true
  | .nilm=>true
  | .nilf=>true
  | .nili=>true
  | .junk=>true
  | .agg cs=>AV.flatL cs
  | .tuple cs=>AV.flatL cs
  | _=>false
def AV.flatL:List AV→Bool
  | []=>true
  | a::as=>AV.flat a && AV.flatL as
end
end Go.Am
namespace Go.Am
open Go
set_option linter.all false
end Go.Am
namespace Go.Am
open Go
set_option linter.all false
end Go.Am
namespace Go.Am
open Go
set_option linter.all false
theorem XG (p q:AV × AV) (r:List (AV × AV)):Gt p (q::r)=if QbA p.1 q.1=true then p::q::r else q::Gt p r:=by
  rw [Gt];cases QbA p.1 q.1 <;> rfl
end Go.Am
namespace Go.Am
open Go
set_option linter.all false
end Go.Am
namespace Go.Am
open Go
set_option linter.all false
def up0 (g:Fun):Fun:=fun as h k=>∃ K,g as h K∧∀ r h',K r h'→k r h'
theorem Qt.up0 {P:Program} {f:FuncId} {g:Fun} (hg:Qt P f g):Qt P f (up0 g):=hg.up fun _ _ _ e=>e
end Go.Am
namespace Go.Am
open Go
set_option linter.all false
end Go.Am
namespace Go.Am
open Go
set_option linter.all false
def cutS:AV→AV
  | .slice id off len cap es ex=>.slice id off len len es false
  | a=>a
theorem cutS_rel {μ:Mu} {a:AV} {v:Value} (h:AV.rel μ a v):AV.rel μ (cutS a) v:=by
  cases a <;> first | exact h | skip
  simp only [cutS,AV.rel] at h ⊢
  obtain ⟨b,d,c,o,a,h1,h2,h3,h4,h5,h6,h7,h8,h9⟩:=h
  exact ⟨b,d,c,o,a,h1,h2,h3,fun hl=>h4 (by omega),by omega,fun e=>(by cases e),Nat.le_refl _,h8,h9⟩
structure Weak (b:Nat) (h1 h2:H):Prop where
  next:h2.next=h1.next
  base:h2.base=h1.base
  get:∀ id,id≠b→h2.get id=h1.get id
  at_:∃ m t cs cs',h1.get b=.cells m t cs∧h2.get b=.cells m t cs'∧∀ (i:Nat) (a':AV),cs'[i]?=some a'→∃ a,cs[i]?=some a∧(a'=a∨a'=cutS a)
theorem Weak.live {b:Nat} {h1 h2:H} (W:Weak b h1 h2) {id:Nat} (hl:(h2.get id).live=true):(h1.get id).live=true:=by
  by_cases e:id=b
  · subst e
    obtain ⟨m,t,cs,cs',e1,e2,_⟩:=W.at_
    rw [e1];rfl
  · rw [← W.get id e];exact hl
theorem Weak.post {μ μ1:Mu} {b:Nat} {h h1 h2:H} {w w':World} (W:Weak b h1 h2) (p:Post μ h w μ1 h1 w') (hb:h.base≤b) (hm:∃ q,μ b=some q):Post μ h w μ1 h2 w':=by
  have bs:h1.base=h.base:=p.grows.base
  refine ⟨p.ext,⟨⟨by rw [W.next,W.base];exact p.rel.wf.low⟩,fun id x d hq=>by rw [W.next];exact p.rel.dom id x d hq,fun i j x d e hi hj li lj hbj=>p.rel.inj i j x d e hi hj (W.live li) (W.live lj) (by rw [← W.base];exact hbj),fun id x d hq=>?_,p.rel.cnt,p.rel.glb.step W.base (fun id hi=>W.get id (by omega)) fun _ _=>rfl⟩,p.frame,
    ⟨by rw [W.next];exact p.grows.next,W.base.trans bs,fun id hi hq=>?_,fun id hi=>?_,fun id hi hl=>p.grows.dead id hi (W.live hl)⟩,fun id x d hi hq hx hl=>p.fresh id x d hi hq hx (W.live hl)⟩
  · by_cases e : id = b
    · subst e
      obtain ⟨m,t,cs,cs',e1,e2,e3⟩:=W.at_
      have hk:=p.rel.blk id x d hq
      rw [e1] at hk
      rw [e2,W.base]
      obtain ⟨ccs,fr,r1,r2,r3,r4⟩:=hk
      refine ⟨ccs,fr,r1,fun i a' ha=>?_,r3,r4⟩
      obtain ⟨a,ha1,ha2⟩:=e3 i a' ha
      obtain ⟨v,hv,hr⟩:=r2 i a ha1
      rcases ha2 with rfl | rfl
      · exact ⟨v,hv,hr⟩
      · exact ⟨v,hv,cutS_rel hr⟩
    · rw [W.get id e,W.base];exact p.rel.blk id x d hq
  · have : id ≠ b := fun e => by subst e; obtain ⟨q, e⟩ := hm; rw [e] at hq; cases hq
    rw [W.get id this];exact p.grows.keep id hi hq
  · rw [W.get id (by omega)];exact p.grows.low id hi
def weakF (g:Fun):Fun:=fun as h k=>match as with
  | .ptr b _::_=>h.base≤b∧g as h fun r h1=>∃ h2,Weak b h1 h2∧k r h2
  | _=>False
theorem Qt.weak {P:Program} {f:FuncId} {g:Fun} (hg:Qt P f g):Qt P f (weakF g):=by
  intro as h Q e μ w args hR ha
  unfold weakF at e
  split at e
  · rename_i b o r
    obtain ⟨hb,e⟩:=e
    have hm:∃ q,μ b=some q:=by
      obtain ⟨v,_,_,hx,_⟩:=AV.relL_cons.1 ha
      simp only [AV.rel] at hx
      obtain ⟨x,d,e1,_⟩:=hx
      exact ⟨_,e1⟩
    rcases hg _ h _ e μ w args hR ha with ⟨v,w',μ1,x,h1,q1,q2,q3,h2,q4,q5⟩ | ⟨q1,q2⟩
    · exact .inl ⟨v,w',μ1,x,h2,q1,q2,q4.post q3 hb hm,q5⟩
    · exact .inr ⟨q1,Calls.mono q2 fun e w' ⟨v,μ1,x,h1,p1,p2,p3,h2,p4,p5⟩=>⟨v,μ1,x,h2,p1,p2,p4.post p3 hb hm,p5⟩⟩
  · exact e.elim
end Go.Am
namespace Go.Am
open Go
set_option linter.all false
end Go.Am
namespace Go.Am
open Go
set_option linter.all false
def mnzF (e:Nat):Fun:=fun l h k=>match l with
  | [.int .i64 n]=>Int.rec (motive:=fun _=>Prop) (fun n=>ck (Nat.ble n 1099511627776) (op2 (WR (.bytes e 0 false ⟨0,0⟩) n 1 h) k)) (fun _=>False) n
  | _=>False
theorem makeNoZero_ok {P : Program} {f : FuncId} {fn : Func} {t e : TypeId} (hf : P.funcs[f]? = some fn) (hn : (fn.name == "runtime.NumGoroutine") = false) (hb : fn.body.isNone = true) (h1 : Extern.findNext fn = none) (h2 : Extern.find fn = some (Extern.BytealgMakeNoZero.makeNoZero fn.params #[t])) (ht : P.underlying t = some (.slice e)) : Qt P f (mnzF e) := by
  intro l h Q q μ w args hR ha
  left
  unfold mnzF at q
  split at q
  · rename_i n
    obtain ⟨v,_,hv,hx,hn'⟩:=AV.relL_cons.1 ha
    rw [AV.relL_nil] at hn';subst hn'
    have:args=#[v]:=Array.toList_inj.1 hv
    subst this
    simp only [AV.rel] at hx
    subst hx
    cases n with
    | negSucc m=>exact q.elim
    | ofNat n =>
      have q:ck (Nat.ble n 1099511627776) (op2 (WR (.bytes e 0 false ⟨0,0⟩) n 1 h) Q):=q
      rw [QN,Qk] at q
      obtain ⟨hn2,q⟩:=q
      obtain ⟨r,h',hs,hK⟩:=WJ q
      obtain ⟨cs,hrun,hle,_⟩:=Go.Lib.run_makeNoZero (P:=P) w fn.params t e ht n (by omega)
      obtain ⟨μ',q1,q2⟩:=V7 (cap:=cs.size) (w':=w.drew.drew.alloc (.cells cs e)) hR hs rfl rfl rfl rfl ⟨cs,(0,0),[],Array.getElem?_push_size,rfl,fun i x hi=>by simp at hi,fun _ o _ _ hc=>by omega,fun _=>.inl rfl⟩ hle (by omega)
      · refine ⟨_, _, μ', r, h', ?_, q1, q2, hK⟩
        rw [beq_eq_false_iff_ne] at hn
        rw [Option.isNone_iff_eq_none] at hb
        obtain ⟨va,hva⟩:∃ va,va=Value.int .i64 (Int.ofNat n):=⟨_,rfl⟩
        have hrun':(Extern.BytealgMakeNoZero.makeNoZero fn.params #[t] #[va]).run P w=.ok (.slice (some ⟨w.heap.size,0,none⟩) n cs.size) (w.drew.drew.alloc (.cells cs e)):=by rw [hva];exact hrun
        rw [← hva]
        clear hva
        simp [callFunc,hf,hn,hb,h1,h2,hrun']
  · exact q.elim
end Go.Am
namespace Go.Am
open Go
set_option linter.all false
end Go.Am
namespace Go.Am
open Go
set_option linter.all false
end Go.Am
