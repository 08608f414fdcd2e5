import Derived.Test.YtfgdelkdmdmfgaaDoorAmL4
set_option linter.all false
namespace Go.Am
open Go
theorem DB {l:List Operand} {ρ ρ':Operand→AV} (h:∀ x∈l,ρ x=ρ' x):l.map ρ=l.map ρ':=List.map_congr_left h
theorem Gg {ρ ρ':Operand→AV} (ps:Array (Nat × Operand)) (hp:∀ x∈(ps.toList.map (·.2)).toArray,ρ x=ρ' x):(ps.toList.map fun p=>(p.1,ρ p.2))=(ps.toList.map fun p=>(p.1,ρ' p.2)) :=
  List.map_congr_left fun p hm=>by rw [hp p.2 (by simpa using ⟨p.1,by simpa using hm⟩)]
theorem Ds {T:Ty} {o:Op} {ρ ρ':Operand→AV} (h:∀ x∈o.operands,ρ x=ρ' x):opP T o ρ=opP T o ρ':=by
  unfold opP
  split <;> simp only [Op.operands] at h
  case h_8 fn a b=>
    rw [List.map_congr_left (l:=a.toList) (fun x hx=>h x (by simp;exact .inl (by simpa using hx))),List.map_congr_left (l:=b.toList) (fun x hx=>h x (by simp;exact .inr (by simpa using hx)))]
  case h_14 t x lo hi=>cases lo <;> cases hi <;> simp_all
  case h_16 t ps=>rw [Gg ps h]
  case h_18 t x lo hi m=>cases lo <;> cases hi <;> simp_all
  case h_19 args argTypes=>
    cases ha:args.toList with
    | nil=>rfl
    | cons x r =>
      have hx:ρ x=ρ' x:=h x (by simp [Call.operands];rw [← Array.mem_toList_iff,ha];simp)
      cases r <;> cases argTypes.toList with
      | nil=>rfl
      | cons t r'=>cases r' <;> simp only [hx]
  case h_20 b args argTypes _=>
    rw [List.map_congr_left fun x hm=>h x (by simp [Call.operands];simpa using hm)]
  case h_21=>rfl
  all_goals simp_all
theorem Dr {T:Ty} {o:Op} {ρ ρ':Operand→AV} {h:H} (hx:∀ x∈o.operands,ρ x=ρ' x):opR T o ρ h=opR T o ρ' h:=by
  unfold opR
  split <;> simp only [Op.operands] at hx
  case h_5 args argTypes=>
    cases ha:args.toList with
    | nil=>rfl
    | cons x r =>
      have hx':ρ x=ρ' x:=hx x (by simp [Call.operands];rw [← Array.mem_toList_iff,ha];simp)
      cases r <;> cases argTypes.toList with
      | nil=>rfl
      | cons t r'=>cases r' <;> simp only [hx']
  case h_6=>rfl
  all_goals simp_all
theorem Dt {T:Ty} {o:Op} {ρ ρ':Operand→AV} (h:∀ x∈o.operands,ρ x=ρ' x):opA T o ρ=opA T o ρ':=by
  unfold opA
  split <;> simp only [Op.operands] at h
  case h_3 t n ps=>rw [Gg ps h]
  case h_6=>rfl
  all_goals simp_all
theorem opW_congr {T : Ty} {G : Gam} {o : Op} {ρ ρ' : Operand → AV} {h : H} {k : AV → H → Prop} (hx : ∀ x ∈ o.operands, ρ x = ρ' x) : opW T G o ρ h k = opW T G o ρ' h k := by
  have two:∀ {args:Array Operand} {callee:Callee} {at_:Array TypeId},(∀ x∈(Call.operands { callee:=callee,args:=args,argTypes:=at_ }),ρ x=ρ' x)→∀ x∈args.toList,ρ x=ρ' x:=by
    intro args callee at_ hx x hm
    have hm':x∈args:=by simpa using hm
    refine hx x ?_
    cases callee <;> simp [Call.operands,hm']
  unfold opW
  split <;> simp only [Op.operands] at hx
  case h_6 args argTypes=>
    have ha:=two hx
    cases hl:args.toList with
    | nil=>rfl
    | cons s r =>
      rw [hl] at ha
      have h1:=ha s (by simp)
      cases r with
      | nil=>rfl
      | cons x r' =>
        have h2:=ha x (by simp)
        cases r' with
        | nil => cases argTypes.toList with
          | nil=>rfl
          | cons t q => cases q with
            | nil=>rfl
            | cons t2 q => cases q with
              | nil=>simp only [h1,h2]
              | cons=>rfl
        | cons=>rfl
  case h_7 args argTypes=>
    have ha:=two hx
    cases hl:args.toList with
    | nil=>rfl
    | cons s r =>
      rw [hl] at ha
      have h1:=ha s (by simp)
      cases r with
      | nil=>rfl
      | cons x r' =>
        have h2:=ha x (by simp)
        cases r' with
        | nil => cases argTypes.toList with
          | nil=>rfl
          | cons t q => cases q with
            | nil=>rfl
            | cons t2 q => cases q with
              | nil=>simp only [h1,h2]
              | cons=>rfl
        | cons=>rfl
  case h_8 b args argTypes _ _=>
    rw [DB (two hx)]
  case h_9 f args argTypes=>
    have h1:ρ f=ρ' f:=hx f (by simp [Call.operands])
    rw [h1,DB (two hx)]
  case h_12 t x lo hi=>
    cases lo <;> cases hi <;> simp_all
  case h_13=>rfl
  all_goals simp_all
theorem opX_congr {T:Ty} {G:Gam} {o:Op} {ρ ρ':Operand→AV} {h:H} {k:AV→H→Prop} (hx:∀ x∈o.operands,ρ x=ρ' x):opX T G o ρ h k=opX T G o ρ' h k:=by
  unfold opX
  rw [Ds hx,Dr hx,Dt hx,opW_congr hx]
noncomputable def QbO (S:List Nat) (env:List AV):Operand→AV
  | .tmp t=>if t∈S then env.getD t .junk else .junk
  | x=>ev env x
theorem evOn_rel {μ:Mu} {S:List Nat} {env:List AV} {a:Act} (h:∀ t∈S,(env.getD t .junk).rel μ (a.tmps.getD t undef)):Wz μ (QbO S env) a.eval:=by
  intro x
  cases x with
  | tmp t =>
    simp only [QbO];split
    · rename_i ht;exact h t ht
    · simp [AV.rel]
  | const v=>exact Du v
  | global g=>simp only [QbO,ev,AV.rel];rfl
  | func f=>simp only [QbO,ev,AV.rel,Act.eval];exact ⟨_,_,rfl,AV.relL_nil.2 rfl,AV.relL_nil.2 rfl⟩
theorem evOn_eq {ops:List Oper} {o:Oper} {env:List AV}:∀ x∈o.op.operands,ev env x=QbO (looks ops o) env x:=by
  intro x hx
  cases x with
  | tmp t =>
    have:t∈looks ops o:=by
      unfold looks
      rw [List.mem_append,List.mem_filterMap]
      exact .inl ⟨.tmp t,by simpa using hx,rfl⟩
    simp only [QbO,this,if_true,ev,Z5]
  | _=>rfl
def Qb7 (L:List Oper) (i j:Nat):Prop:=∀ D:Nat→Prop,(∀ oj,L[j]?=some oj→∀ d∈UC oj,D d)→(∀ (x:Nat) ox d,D x→L[x]?=some ox→d∈UC ox→D d)→D i
theorem NA {acc:List Nat} {i:Nat}:∀ {ds:List Nat},(Xy acc ds).testBit i=true→∃ d∈ds,i=d∨(acc.getD d 0).testBit i=true
  | [],h=>by simp [Xy] at h
  | d :: r, h => by
    have h':((Nat.shiftLeft 1 d ||| acc.getD d 0) ||| Xy acc r).testBit i=true:=h
    rw [Nat.testBit_or,Nat.testBit_or] at h'
    simp only [Bool.or_eq_true] at h'
    rcases h' with (h' | h') | h'
    · refine ⟨d, by simp, .inl ?_⟩
      rw [show Nat.shiftLeft 1 d=2 ^ d from Nat.one_shiftLeft d,Nat.testBit_two_pow] at h'
      simpa using (of_decide_eq_true h').symm
    · exact ⟨d,by simp,.inr h'⟩
    · obtain ⟨d', hd, hi⟩ := NA h'
      exact ⟨d',by simp [hd],hi⟩
theorem KG (L:List Oper):∀ (r:List Oper) (acc:List Nat),L.drop acc.length=r→(∀ j i,(acc.getD j 0).testBit i=true→Qb7 L i j)→∀ j i,((Qx r acc).getD j 0).testBit i=true→Qb7 L i j
  | [],acc,_,h=>h
  | o :: r, acc, hd, h => by
    have ho:L[acc.length]?=some o:=by
      have:(L.drop acc.length)[0]?=some o:=by rw [hd];rfl
      simpa using this
    refine KG L r (acc++[Xy acc (UC o)]) (by rw [List.length_append,← List.drop_drop,hd];rfl) fun j i hb=>?_
    rcases Nat.lt_trichotomy j acc.length with hj | hj | hj
    · rw [List.getD_eq_getElem?_getD, List.getElem?_append_left hj, ← List.getD_eq_getElem?_getD] at hb
      exact h j i hb
    · subst hj
      rw [List.getD_eq_getElem?_getD,List.getElem?_append_right (Nat.le_refl _)] at hb
      simp at hb
      obtain ⟨d,hdm,hi⟩:=NA hb
      intro D h1 h2
      have hDd:=h1 o ho d hdm
      rcases hi with rfl | hi
      · exact hDd
      · exact h d i hi D (fun oj hoj d' hd'=>h2 d oj d' hDd hoj hd') h2
    · rw [List.getD_eq_getElem?_getD, List.getElem?_eq_none (by simp; omega)] at hb
      simp at hb
mutual
theorem QcQ:∀ (a b:AV),AV.same a b=true→a=b
  | .bool _,b,h=>by cases b <;> simp [AV.same] at h <;> simp [h]
  | .int _ _,b,h=>by cases b <;> simp [AV.same] at h <;> simp [h]
  | .str _,b,h=>by cases b <;> simp [AV.same] at h <;> simp [h]
  | .nilp,b,h=>by cases b <;> simp [AV.same] at h <;> rfl
  | .ptr _ _,b,h=>by cases b <;> simp [AV.same] at h <;> simp [h]
  | .nils,b,h=>by cases b <;> simp [AV.same] at h <;> rfl
  | .slice _ _ _ _ _ _,b,h=>by cases b <;> simp [AV.same] at h <;> simp [h]
  | .nilm,b,h=>by cases b <;> simp [AV.same] at h <;> rfl
  | .map _,b,h=>by cases b <;> simp [AV.same] at h <;> simp [h]
  | .nilf,b,h=>by cases b <;> simp [AV.same] at h <;> rfl
  | .nili,b,h=>by cases b <;> simp [AV.same] at h <;> rfl
  | .agg as, b, h => by
    cases b <;> simp [AV.same] at h
    rw [sames_eq as _ h]
  | .junk,b,h=>by cases b <;> simp [AV.same] at h
  | .func _ _ _,b,h=>by cases b <;> simp [AV.same] at h
  | .iface _ _,b,h=>by cases b <;> simp [AV.same] at h
  | .tuple _,b,h=>by cases b <;> simp [AV.same] at h
theorem sames_eq:∀ (as bs:List AV),AV.same.sames as bs=true→as=bs
  | [],[],_=>rfl
  | a :: as, b :: bs, h => by
    simp only [AV.same.sames,Bool.and_eq_true] at h
    rw [QcQ a b h.1,sames_eq as bs h.2]
  | [],_::_,h=>by cases h
  | _::_,[],h=>by cases h
end
theorem Yl {T : Ty} {m : Nat} {h : H} {k : Prop} : ∀ {l : List Q2}, Z3 T m h k l → k ∧ ∀ s ∈ l, s.b = true → Nat.testBit m s.i = false → Qco s.op = false → opR T s.op (ev s.env) h = some s.v
  | [],e=>⟨e,fun s hs=>by cases hs⟩
  | c :: r, e => by
    unfold Z3 at e
    split at e
    · rename_i hc
      obtain ⟨h1,h2⟩:=Yl e
      refine ⟨h1,fun s hs hb ht hg=>?_⟩
      cases hs with
      | head=>rw [ht,hg] at hc;cases hc
      | tail _ hs=>exact h2 s hs hb ht hg
    · rw [QN] at e
      obtain ⟨hc,e⟩:=e
      obtain ⟨h1,h2⟩:=Yl e
      refine ⟨h1,fun s hs hb ht hg=>?_⟩
      cases hs with
      | head =>
        rw [hb] at hc
        have hc:Zz (opR T c.op (ev c.env) h) c.v=true:=hc
        unfold Zz at hc
        cases hv:opR T c.op (ev c.env) h with
        | none=>rw [hv] at hc;cases hc
        | some v=>rw [hv] at hc;rw [QcQ _ _ hc]
      | tail _ hs=>exact h2 s hs hb ht hg
theorem opR_gl {T:Ty} {o:Op} {env:List AV} {h h':H} {v:AV} (hg:Qco o=true) (hn:h.next≤h'.next) (hb:h'.base=h.base) (hl:∀ id,id < h.base→h'.get id=h.get id) (e:opR T o (ev env) h=some v):opR T o (ev env) h'=some v:=by
  unfold Qco at hg
  split at hg
  · rename_i t g
    have ha:Ul h' g=Ul h g:=by
      unfold Ul
      rw [hb]
      cases hq:Nat.blt g h.base with
      | false=>rfl
      | true=>rw [hl g (by rwa [QH] at hq)]
    have h1:Zn (.glob g 0) h'=Zn (.glob g 0) h:=by unfold Zn;simp only [ha]
    have h2:∀ n,Y7 n (.glob g 0) h'=Y7 n (.glob g 0) h:=fun n=>by unfold Y7;simp only [ha]
    simp only [opR,ev] at e ⊢
    rw [h1,h2];exact e
  · cases hg
end Go.Am
