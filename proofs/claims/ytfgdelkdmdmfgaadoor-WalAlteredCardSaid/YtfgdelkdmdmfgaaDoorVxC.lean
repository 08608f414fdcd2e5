import Derived.Test.YtfgdelkdmdmfgaaDoorAmL7
namespace Go.Am
open Go
set_option linter.all false
inductive All2 {α β:Type} (R:α→β→Prop):List α→List β→Prop where
  | nil:All2 R [] []
  | cons {a:α} {b:β} {l:List α} {m:List β}:R a b→All2 R l m→All2 R (a::l) (b::m)
theorem All2.imp {α β:Type} {R S:α→β→Prop} {l:List α} {m:List β} (h:All2 R l m) (hi:∀ a b,a∈l→R a b→S a b):All2 S l m:=by
  induction h with
  | nil=>exact .nil
  | cons h1 h2 ih=>exact .cons (hi _ _ List.mem_cons_self h1) (ih fun a b hm=>hi a b (List.mem_cons_of_mem _ hm))
def SlB (h:H) (v:AV) (b:List UInt8):Prop:=(b=[]∧v=.nils)∨∃ id off cap ex t f sg l,v=.slice id off b.length cap 1 ex∧h.get id=.bytes t f sg (Str.of l)∧off+b.length≤l.length∧(l.take (off+b.length)).drop off=b∧b.length≤cap
theorem SlB.same {h h':H} {v:AV} {b:List UInt8} (s:SlB h v b) (hg:∀ id t f g x,h.get id=.bytes t f g x→h'.get id=h.get id):SlB h' v b:=by
  rcases s with s | ⟨id,off,cap,ex,t,f,sg,l,e1,e2,e3⟩
  · exact .inl s
  · exact .inr ⟨id,off,cap,ex,t,f,sg,l,e1,by rw [hg _ _ _ _ _ e2];exact e2,e3⟩
theorem SlB.nil (h:H):SlB h .nils []:=.inl ⟨rfl,rfl⟩
theorem SlB.row {h:H} {id cap t f:Nat} {ex sg:Bool} {l:List UInt8} (e:h.get id=.bytes t f sg (Str.of l)) (hc:l.length≤cap):SlB h (.slice id 0 l.length cap 1 ex) l :=
  .inr ⟨id,0,cap,ex,t,f,sg,l,rfl,e,by omega,by simp,hc⟩
theorem SlB.ofRow {g:Bool} {e n:Nat} {h:H} {v:AV} {l:List UInt8} (r:Row g e n h v l):SlB h v l:=by
  rcases r with ⟨rfl,rfl⟩ | ⟨id,ex,sg,rfl,r2,r3,r4,r5⟩
  · exact SlB.nil h
  · exact SlB.row r4 (Nat.le_refl _)
theorem SlB.len {h:H} {v:AV} {b:List UInt8} (s:SlB h v b) (k:Nat→Prop):ZH v k=k b.length:=by
  rcases s with ⟨rfl,rfl⟩ | ⟨id,off,cap,ex,t,f,sg,l,rfl,_⟩ <;> rfl
theorem SlB.one {h:H} {v:AV} {b:List UInt8} (s:SlB h v b):ZB v=true:=by
  rcases s with ⟨rfl,rfl⟩ | ⟨id,off,cap,ex,t,f,sg,l,rfl,_⟩ <;> rfl
theorem SlB.str {h:H} {v:AV} {b:List UInt8} (s:SlB h v b) (k:Str→Prop):Y1 v h k=k (Str.of b):=by
  rcases s with ⟨rfl,rfl⟩ | ⟨id,off,cap,ex,t,f,sg,l,rfl,e2,e3,e4⟩
  · rfl
  · unfold Y1
    rw [Zu,e2,WQ,Zb]
    show ck (Nat.ble (off+b.length) l.length) _=_
    rw [(Qk _ _).2 e3,Uf,Vt]
    show k ((Str.of l).sub off (off+b.length))=_
    rw [Str.sub_of l off _ (by omega) e3,e4.1]
theorem SlB.src {h:H} {v:AV} {b:List UInt8} (s:SlB h v b) (t:Nat) (k:Str→Prop):Qb9 (.slice t) v h k=k (Str.of b):=s.str k
theorem SlB.nilB {h:H} {v:AV} {b:List UInt8} (s:SlB h v b) {k:Bool→Prop} (h1:b=[]→v=.nils→k true) (h2:k false):nilB 2 v k:=by
  rcases s with ⟨rfl,rfl⟩ | ⟨id,off,cap,ex,t,f,sg,l,rfl,e2,e3,e4⟩
  · exact h1 rfl rfl
  · exact h2
theorem UY {α:Type} (l:List α) {o n i m:Nat} (him:i+m≤n):(l.take (o+i+m)).drop (o+i)=(((l.take (o+n)).drop o).drop i).take m:=by
  rw [List.drop_take,List.drop_take,List.drop_take,List.drop_drop,List.take_take]
  congr 1;omega
theorem SlB.part {h : H} {v : AV} {b : List UInt8} (s : SlB h v b) {i m : Nat} (him : i + m ≤ b.length) (hm : 0 < m) {kk k2 k3 : IntKind} :
    ∃ v',JH 1 v (some (.int kk (Int.ofNat i))) (some (.int k2 (Int.ofNat (i+m)))) (.int k3 (Int.ofNat (i+m)))=some v'∧SlB h v' ((b.drop i).take m):=by
  rcases s with ⟨rfl,rfl⟩ | ⟨id,off,cap,ex,t,f,sg,l,rfl,e2,e3,e4,e5⟩
  · simp at him;omega
  · refine ⟨.slice id (off + i) m m 1 true, ?_, ?_⟩
    · unfold JH
      simp only [bnd]
      rw [(Qk (i+m) cap).2 (by omega),(Qk (i+m) (i+m)).2 (Nat.le_refl _),(Qk i (i+m)).2 (by omega)]
      have e:Nat.beq (i+m) i=false:=by
        cases hb:Nat.beq (i+m) i with
        | false=>rfl
        | true=>rw [Nat.beq_eq] at hb;omega
      rw [e]
      simp only [seqN_eq]
      have a1:Nat.add off (Nat.mul i 1)=off+i:=by show off+i * 1=_;omega
      have a2:Nat.sub (i+m) i=m:=by show i+m - i=m;omega
      rw [a1,a2]
      rfl
    · have el : ((b.drop i).take m).length = m := by simp; omega
      refine .inr ⟨id,off+i,m,true,t,f,sg,l,by rw [el],e2,by rw [el];omega,?_,by rw [el];exact Nat.le_refl _⟩
      rw [el,UY l him,e4]
theorem SlB.rest {h:H} {v:AV} {b:List UInt8} (s:SlB h v b) {i:Nat} (hi:i < b.length) {kk:IntKind} {k:AV→Prop} (hk:∀ v',(∀ f:Nat→Prop,ZH v' f=f (b.length - i))→k v') :
    slK 1 v (some (.int kk (Int.ofNat i))) none k:=by
  rcases s with ⟨rfl,rfl⟩ | ⟨id,off,cap,ex,t,f,sg,l,rfl,e2,e3,e4,e5⟩
  · simp at hi
  · unfold slK
    rw [Zu]
    show ck (Nat.ble b.length cap) (ck (Nat.ble i b.length) (ck true (br (Nat.beq cap i) _ _)))
    rw [(Qk _ _).2 e5,(Qk _ _).2 (by omega),Uf,Uf,Uf,Zb,Zb,Zb,Zb]
    refine QP (fun h0=>?_) fun h0=>?_
    · rw [Nat.beq_eq] at h0;omega
    · exact hk _ fun f=>rfl
def Z8:List (Int × List UInt8)→Int→Option (List UInt8)
  | [],_=>none
  | p::l,x=>if p.1=x then some p.2 else Z8 l x
def Jc:List (Int × List UInt8)→Int→List UInt8→List (Int × List UInt8)
  | [],_,_=>[]
  | p::l,x,b=>if p.1=x then (x,b)::Jc l x b else p::Jc l x b
def JL:List (Int × List UInt8)→Int→List UInt8→List (Int × List UInt8)
  | [],x,b=>[(x,b)]
  | p::l,x,b=>if x < p.1 then (x,b)::p::l else p::JL l x b
def XN (l:List (Int × List UInt8)) (x:Int) (b:List UInt8):List (Int × List UInt8):=if (Z8 l x).isSome then Jc l x b else JL l x b
def Zh:List (List UInt8 × Int)→List UInt8→Option Int
  | [],_=>none
  | p::l,s=>if p.1=s then some p.2 else Zh l s
def nrepl:List (List UInt8 × Int)→List UInt8→Int→List (List UInt8 × Int)
  | [],_,_=>[]
  | p::l,s,x=>if p.1=s then (s,x)::nrepl l s x else p::nrepl l s x
def nins:List (List UInt8 × Int)→List UInt8→Int→List (List UInt8 × Int)
  | [],s,x=>[(s,x)]
  | p::l,s,x=>if Op.bytesLess s p.1=true then (s,x)::p::l else p::nins l s x
def nput (l:List (List UInt8 × Int)) (s:List UInt8) (x:Int):List (List UInt8 × Int):=if (Zh l s).isSome then nrepl l s x else nins l s x
def Nw:List (List UInt8 × Int)→List UInt8→List (List UInt8 × Int)
  | [],_=>[]
  | p::l,s=>if p.1=s then Nw l s else p::Nw l s
def JW (h:H) (e:AV × AV) (p:Int × List UInt8):Prop:=e.1=.int .i64 p.1∧SlB h e.2 p.2
def Wn (p:List UInt8 × Int):AV × AV:=(.str (Str.of p.1),.int .i64 p.2)
theorem QeF (x y:Int):Ye (.int .i64) (.int .i64 x) (.int .i64 y)=some (eqI x y):=by
  unfold Ye
  have e:keq .i64 .i64=true:=W3.2 rfl
  simp only [e]
theorem Qcn (a b:List UInt8):Ye .str (.str (Str.of a)) (.str (Str.of b))=some (decide (a=b)):=by
  show some ((Str.of a).beq (Str.of b))=_
  rw [GQ]
theorem findF {h:H} {es:List (AV × AV)} {fl:List (Int × List UInt8)} (a:All2 (JW h) es fl) (x:Int):(Z8 fl x=none∧ZU (.int .i64) (.int .i64 x) es=some none)∨∃ b v,Z8 fl x=some b∧SlB h v b∧ZU (.int .i64) (.int .i64 x) es=some (some v):=by
  induction a with
  | nil=>exact .inl ⟨rfl,rfl⟩
  | @cons e p l m h1 h2 ih =>
    obtain ⟨k,v⟩:=e
    obtain ⟨y,b⟩:=p
    obtain ⟨hk,hv⟩:=h1
    have hk:k=.int .i64 y:=hk
    subst hk
    have hv:SlB h v b:=hv
    unfold ZU Z8
    rw [show Ye (.int .i64) (.int .i64 x) ((AV.int .i64 y,v):AV × AV).1=some (eqI x y) from QeF x y]
    by_cases hxy:y=x
    · subst hxy
      rw [if_pos rfl,Zp.2 rfl]
      refine .inr ⟨b,v,rfl,hv,?_⟩
      rcases ih with ⟨_,e⟩ | ⟨_,_,_,_,e⟩ <;> rw [e]
    · rw [if_neg hxy, Q4.2 (fun e => hxy e.symm)]
      rcases ih with ⟨e1,e⟩ | ⟨b',v',e1,e2,e⟩
      · exact .inl ⟨e1,by rw [e]⟩
      · exact .inr ⟨b',v',e1,e2,by rw [e]⟩
theorem Qdx (nl:List (List UInt8 × Int)) (s:List UInt8):ZU .str (.str (Str.of s)) (nl.map Wn)=some ((Zh nl s).map fun x=>.int .i64 x):=by
  induction nl with
  | nil=>rfl
  | cons p l ih =>
    rw [List.map_cons]
    unfold ZU Zh
    rw [show Ye .str (.str (Str.of s)) (Wn p).1=some (decide (s=p.1)) from Qcn s p.1,ih]
    by_cases h:p.1=s
    · subst h;rw [if_pos rfl,decide_eq_true rfl];rfl
    · rw [if_neg h,decide_eq_false (fun e=>h e.symm)]
theorem replF {h:H} {es:List (AV × AV)} {fl:List (Int × List UInt8)} (a:All2 (JW h) es fl) {x:Int} {v:AV} {b:List UInt8} (hv:SlB h v b):All2 (JW h) (WW (.int .i64) (.int .i64 x) v es) (Jc fl x b):=by
  induction a with
  | nil=>exact .nil
  | @cons e p l m h1 h2 ih =>
    obtain ⟨k,w⟩:=e
    obtain ⟨y,c⟩:=p
    have hk:k=.int .i64 y:=h1.1
    subst hk
    unfold WW Jc
    rw [show Ye (.int .i64) (.int .i64 x) ((AV.int .i64 y,w):AV × AV).1=some (eqI x y) from QeF x y]
    by_cases hxy:y=x
    · subst hxy
      rw [if_pos rfl,Zp.2 rfl]
      exact .cons ⟨rfl,hv⟩ ih
    · rw [if_neg hxy, Q4.2 (fun e => hxy e.symm)]
      exact .cons h1 ih
theorem insFv {h:H} {es:List (AV × AV)} {fl:List (Int × List UInt8)} (a:All2 (JW h) es fl) {x:Int} {v:AV} {b:List UInt8} (hv:SlB h v b):All2 (JW h) (Gt (.int .i64 x,v) es) (JL fl x b):=by
  induction a with
  | nil=>exact .cons ⟨rfl,hv⟩ .nil
  | @cons e p l m h1 h2 ih =>
    obtain ⟨k,w⟩:=e
    obtain ⟨y,c⟩:=p
    have hk:k=.int .i64 y:=h1.1
    subst hk
    rw [XG]
    unfold JL
    have e:QbA ((AV.int .i64 x,v):AV × AV).1 ((AV.int .i64 y,w):AV × AV).1=ltI x y:=rfl
    rw [e,Vm]
    by_cases hxy:x < y
    · rw [if_pos hxy, if_pos (by simpa using hxy)]
      exact .cons ⟨rfl,hv⟩ (.cons h1 h2)
    · rw [if_neg hxy, if_neg (by simpa using hxy)]
      exact .cons h1 ih
theorem replN (nl:List (List UInt8 × Int)) (s:List UInt8) (x:Int):WW .str (.str (Str.of s)) (.int .i64 x) (nl.map Wn)=(nrepl nl s x).map Wn:=by
  induction nl with
  | nil=>rfl
  | cons p l ih =>
    rw [List.map_cons]
    unfold WW nrepl
    rw [show Ye .str (.str (Str.of s)) (Wn p).1=some (decide (s=p.1)) from Qcn s p.1,ih]
    by_cases h:p.1=s
    · subst h;rw [if_pos rfl,decide_eq_true rfl];rfl
    · rw [if_neg h,decide_eq_false (fun e=>h e.symm)];rfl
theorem insN (nl:List (List UInt8 × Int)) (s:List UInt8) (x:Int):Gt (.str (Str.of s),.int .i64 x) (nl.map Wn)=(nins nl s x).map Wn:=by
  induction nl with
  | nil=>rfl
  | cons p l ih =>
    rw [List.map_cons,XG]
    unfold nins
    have e:QbA ((AV.str (Str.of s),AV.int .i64 x):AV × AV).1 (Wn p).1=Op.bytesLess s p.1:=Str.lt_of s p.1
    rw [e,ih]
    split <;> rfl
theorem delN (nl:List (List UInt8 × Int)) (s:List UInt8):NQ .str (.str (Str.of s)) (nl.map Wn)=(Nw nl s).map Wn:=by
  induction nl with
  | nil=>rfl
  | cons p l ih =>
    rw [List.map_cons]
    unfold NQ Nw
    rw [show Ye .str (.str (Str.of s)) (Wn p).1=some (decide (s=p.1)) from Qcn s p.1,ih]
    by_cases h:p.1=s
    · subst h;rw [if_pos rfl,decide_eq_true rfl]
    · rw [if_neg h,decide_eq_false (fun e=>h e.symm)];rfl
end Go.Am
namespace Go.Am
open Go
set_option linter.all false
structure Only (L:Nat→Prop) (h h':H):Prop where
  base:h'.base=h.base
  next:h.next≤h'.next
  get:∀ i,i < h.next→¬ L i→h'.get i=h.get i
  byt:∀ i t f g s,h.get i=.bytes t f g s→h'.get i=h.get i
def noL:Nat→Prop:=fun _=>False
theorem Only.refl (L:Nat→Prop) (h:H):Only L h h:=⟨rfl,Nat.le_refl _,fun _ _ _=>rfl,fun _ _ _ _ _ _=>rfl⟩
theorem Only.trans {L:Nat→Prop} {h h1 h2:H} (a:Only L h h1) {L':Nat→Prop} (b:Only L' h1 h2) (hl:∀ i,i < h.next→L' i→L i):Only L h h2 :=
  ⟨b.base.trans a.base,Nat.le_trans a.next b.next,fun i hi hn=>(b.get i (Nat.lt_of_lt_of_le hi a.next) fun c=>hn (hl i hi c)).trans (a.get i hi hn),fun i t f g s e=>by
    have e1:=a.byt i t f g s e
    exact (b.byt i t f g s (e1.trans e)).trans e1⟩
theorem Only.imp {L L':Nat→Prop} {h h1:H} (a:Only L h h1) (hl:∀ i,i < h.next→L i→L' i):Only L' h h1:=⟨a.base,a.next,fun i hi hn=>a.get i hi fun c=>hn (hl i hi c),a.byt⟩
theorem Only.at {L:Nat→Prop} {h h1:H} (a:Only L h h1) {i:Nat} {b:Blk} (e:h.get i=b) (hb:b.live=true) (hn:¬ L i):h1.get i=b:=by
  rw [a.get i (H.lt_of_live (by rw [e];exact hb)) hn];exact e
theorem SlB.only {L:Nat→Prop} {h h':H} {v:AV} {b:List UInt8} (s:SlB h v b) (o:Only L h h'):SlB h' v b:=s.same o.byt
theorem Zg {b:Blk} {h:H} {k:Nat→H→Prop} (hk:∀ h',Only noL h h'→h'.next=h.next+1→h'.get h.next=b→k h.next h'):Qz b h k:=by
  rw [QW]
  refine hk _ ⟨rfl,Nat.le_succ _,fun i hi _=>by rw [ZG,if_neg (by omega)],fun i t f g s e=>?_⟩ rfl (by rw [ZG,if_pos rfl])
  have:i < h.next:=H.lt_of_live (by rw [e];rfl)
  rw [ZG,if_neg (by omega)]
theorem U3 {i:Nat} {b c:Blk} {h:H} {k:H→Prop} (g:h.get i=c) (hc:c.live=true) (hb:∀ t f g s,c≠.bytes t f g s) (h2:h.base≤i) (hk:∀ h',Only (· = i) h h'→h'.next=h.next→h'.get i=b→k h'):Yy i b h k:=by
  have h1:i < h.next:=H.lt_of_live (by rw [g];exact hc)
  rw [YX _ h1 h2]
  refine hk _ ⟨rfl,Nat.le_refl _,fun j hj hn=>by rw [QU h i b h1,if_neg hn],fun j t f g' s e=>?_⟩ rfl (by rw [QU h i b h1,if_pos rfl])
  rw [QU h i b h1,if_neg]
  rintro rfl
  rw [g] at e;exact hb _ _ _ _ e
theorem WE {i o:Nat} {m:Bool} {t:Nat} {cs cs':List AV} {x:AV} {h:H} {k:H→Prop} (g:h.get i=.cells m t cs) (h1:ZB x=true) (e:Q7 o [x] cs=some cs') (hb:h.base≤i)
    (hk:∀ h',Only (· = i) h h'→h'.next=h.next→h'.get i=.cells m t cs'→k h'):stV (.ptr i o) x h k:=by
  have hi:i < h.next:=H.lt_of_live (by rw [g];rfl)
  have q:Yy i (.cells m t cs') h k:=U3 g rfl (by intros;intro c;cases c) hb hk
  rw [JY g h1 e hi hb]
  rwa [YX _ hi hb] at q
theorem De {i o n:Nat} {m:Bool} {t:Nat} {cs cs' xs:List AV} {h:H} {k:H→Prop} (g:h.get i=.cells m t cs) (h0:xs.length=n) (h1:ZV xs=true) (e:Q7 o xs cs=some cs') (hb:h.base≤i)
    (hk:∀ h',Only (· = i) h h'→h'.next=h.next→h'.get i=.cells m t cs'→k h'):stN n (.ptr i o) xs h k:=by
  have hi:i < h.next:=H.lt_of_live (by rw [g];rfl)
  have q:Yy i (.cells m t cs') h k:=U3 g rfl (by intros;intro c;cases c) hb hk
  rw [Qaf g h0 h1 e hi hb]
  rwa [YX _ hi hb] at q
structure Stp where
  kind:Int
  name:List UInt8
  to:List UInt8
  file:Int
  bytes:List UInt8
def Stp.cells (s:Stp) (v:AV):List AV:=[.int .i64 s.kind,.str (Str.of s.name),.str (Str.of s.to),.int .i64 s.file,v]
def WaitC (h:H):List Stp→List AV→Prop
  | [],cs=>cs=[]
  | s::l,cs=>∃ v cs',cs=s.cells v++cs'∧SlB h v s.bytes∧WaitC h l cs'
theorem WaitC.only {L:Nat→Prop} {h h':H} (o:Only L h h'):∀ {l:List Stp} {cs:List AV},WaitC h l cs→WaitC h' l cs
  | [],_,w=>w
  | _::_,_,⟨v,cs',e,hv,w⟩=>⟨v,cs',e,hv.only o,WaitC.only o w⟩
theorem WaitC.length {h:H}:∀ {l:List Stp} {cs:List AV},WaitC h l cs→cs.length=5 * l.length
  | [],_,w=>by rw [show _=[] from w];rfl
  | _::l,_,⟨v,cs',e,hv,w⟩=>by rw [e,List.length_append,w.length];simp [Stp.cells];omega
theorem WaitC.snoc {h:H} {s:Stp} {v:AV} (hv:SlB h v s.bytes):∀ {l:List Stp} {cs:List AV},WaitC h l cs→WaitC h (l++[s]) (cs++s.cells v)
  | [],_,w=>by rw [show _=[] from w];exact ⟨v,[],by simp,hv,rfl⟩
  | _::l,_,⟨u,cs',e,hu,w⟩=>⟨u,cs'++s.cells v,by rw [e,List.append_assoc],hu,w.snoc hv⟩
theorem Xz {α:Type}:∀ (a b:List α),Z4 a.length (a++b)=some a
  | [],b=>by cases b <;> rfl
  | x :: a, b => by
    have e:=Xz a b
    show (Option.rec none (fun r=>some (x::r)) (Z4 a.length (a++b)):Option (List α))=_
    rw [e]
theorem WaitC.at {h:H}:∀ {l:List Stp} {cs:List AV} (_:WaitC h l cs) {i:Nat} (hi:i < l.length),∃ v,Z4 5 (Yh (i * 5) cs)=some (l[i].cells v)∧SlB h v l[i].bytes
  | s::l,_,⟨v,cs',e,hv,w⟩,0,_=>⟨v,by rw [e];exact Xz (s.cells v) cs',hv⟩
  | s :: l, _, ⟨v, cs', e, hv, w⟩, i + 1, hi => by
    obtain ⟨u,h1,h2⟩:=w.at (i:=i) (by simpa using hi)
    refine ⟨u,?_,by simpa using h2⟩
    rw [e,show (i+1) * 5=(i * 5)+5 by omega]
    exact h1
def WaitAt (h:H) (wr:Option Nat) (v:AV) (l:List Stp):Prop :=
  (l=[]∧v=.nils∧wr=none)∨(l≠[]∧∃ id mv cs,wr=some id∧v=.slice id 0 l.length l.length 5 false∧h.base≤id∧h.get id=.cells mv 100 cs∧WaitC h l cs)
theorem WaitAt.only {L:Nat→Prop} {h h':H} {wr:Option Nat} {v:AV} {l:List Stp} (w:WaitAt h wr v l) (o:Only L h h') (hn:∀ i,wr=some i→¬ L i):WaitAt h' wr v l:=by
  rcases w with w | ⟨hl,id,mv,cs,h1,h2,h3,h4,h5⟩
  · exact .inl w
  · exact .inr ⟨hl,id,mv,cs,h1,h2,by rw [o.base];exact h3,o.at h4 rfl (hn id h1),h5.only o⟩
theorem WaitAt.len {h:H} {wr:Option Nat} {v:AV} {l:List Stp} (w:WaitAt h wr v l) (k:Nat→Prop):ZH v k=k l.length:=by
  rcases w with ⟨rfl,rfl,rfl⟩ | ⟨hl,id,mv,cs,h1,rfl,h3,h4,h5⟩ <;> rfl
theorem WaitAt.one {h:H} {wr:Option Nat} {v:AV} {l:List Stp} (w:WaitAt h wr v l):ZB v=true:=by
  rcases w with ⟨rfl,rfl,rfl⟩ | ⟨hl,id,mv,cs,h1,rfl,h3,h4,h5⟩ <;> rfl
theorem ixK5 {id len cap i:Nat} {ex:Bool} {kk:IntKind} (hi:i < len) (k:AV→Prop):ixK 5 (.slice id 0 len cap 5 ex) (.int kk (Int.ofNat i)) k=k (.ptr id (i * 5)):=by
  unfold ixK
  rw [Zu,X5,(QH i len).2 hi,Uf]
  show fN (0+i * 5) _=_
  rw [Zb,Nat.zero_add]
theorem WaitAt.read {h:H} {wr:Option Nat} {v:AV} {l:List Stp} (w:WaitAt h wr v l) {i:Nat} (hi:i < l.length) {kk:IntKind} {k:AV→List AV→Prop} (hk:∀ p u,SlB h u l[i].bytes→k p (l[i].cells u)) :
    ixK 5 v (.int kk (Int.ofNat i)) fun p=>ldN 5 p h fun cs=>k p cs:=by
  rcases w with ⟨rfl,rfl,rfl⟩ | ⟨hl,id,mv,cs,h1,rfl,h3,h4,h5⟩
  · simp at hi
  · rw [ixK5 hi]
    obtain ⟨u,e,hu⟩:=h5.at hi
    rw [YB h4 e]
    exact hk _ _ hu
theorem KM {α:Type} (a b:List α) (k:List α→Prop):Qdl a b k=k (a++b):=by
  induction a generalizing k with
  | nil=>rfl
  | cons x a ih=>exact ih fun r=>k (x::r)
theorem Stp.ones (s:Stp) {v:AV} (hv:ZB v=true):ZV (s.cells v)=true:=by
  show (Bool.rec _ _ (ZB v))=true
  rw [hv]
theorem Qb3 {h : H} {wr : Option Nat} {v : AV} {l : List Stp} {s : Stp} {u : AV} {j cap : Nat} {ex : Bool} {k : AV → H → Prop} (w : WaitAt h wr v l) (hj : h.get j = .cells false 100 (s.cells u)) (hu : SlB h u s.bytes)
    (hl:(l.length+1) * 72≤Qe) (hbn:h.base≤h.next)
    (hk:∀ v' h' i,WaitAt h' (some i) v' (l++[s])→Only (fun i=>wr=some i) h h'→h.next≤i→k v' h'):apC 100 5 72 v (.slice j 0 1 cap 5 ex) h k:=by
  unfold apC Qb8
  rw [Zu,hj,Z6]
  show op' (some (s.cells u)) _
  rw [Qy]
  rcases w with ⟨rfl,rfl,rfl⟩ | ⟨hne,id,mv,cs,h1,rfl,h3,h4,h5⟩
  · rw [W9]
    refine QP (fun h0=>by cases h0) fun _=>Qp (by decide) ?_
    refine Zg fun h' o hn hg=>?_
    refine hk _ h' h.next (.inr ⟨by simp,h.next,false,s.cells u,rfl,rfl,by rw [o.base];exact hbn,hg,?_⟩) (o.imp fun _ _ c=>c.elim) (Nat.le_refl _)
    exact ⟨u,[],by simp,hu.only o,rfl⟩
  · have hlen := h5.length
    have hid:id < h.next:=H.lt_of_live (by rw [h4];rfl)
    rw [Zu,h4,Z6,Zb]
    refine QP (fun h0=>?_) fun _=>?_
    · have h0 : l.length + 1 ≤ l.length := (Qk _ _).1 h0
      omega
    · refine Qp ((Qk _ _).2 hl) ?_
      have e:Z4 (Nat.mul l.length 5) (Yh 0 cs)=some cs:=by
        have:=Xz cs []
        rw [List.append_nil,hlen] at this
        show Z4 (l.length * 5) cs=_
        rw [show l.length * 5=5 * l.length by omega];exact this
      rw [e,Qy,KM]
      refine QP (fun h0=>by cases h0) fun _=>Qp rfl (Qp rfl (Qp (s.ones hu.one) ?_))
      refine U3 h4 rfl (by intros;intro c;cases c) h3 fun h1' o1 n1 g1=>?_
      refine Zg fun h2 o2 n2 g2=>?_
      have o12:Only (fun i=>wr=some i) h h2:=(o1.imp (L':=fun i=>wr=some i) fun i _ e=>by rw [h1,e]).trans o2 fun _ _ c=>c.elim
      rw [show Nat.add l.length 1=(l++[s]).length by simp]
      refine hk _ h2 h1'.next (.inr ⟨by simp,h1'.next,true,_,rfl,rfl,by rw [o12.base,n1];exact hbn,g2,?_⟩) o12 (by omega)
      exact (h5.only o12).snoc (hu.only o12)
end Go.Am
namespace Go.Am
open Go
set_option linter.all false
structure Tre where
  files:List (Int × List UInt8)
  names:List (List UInt8 × Int)
def QG (l:List (Int × List UInt8)) (x:Int):List UInt8:=(Z8 l x).getD []
def UL (l:List (List UInt8 × Int)) (s:List UInt8):Int:=(Zh l s).getD 0
def Tre.step (t:Tre) (s:Stp):Tre :=
  if s.kind=0 then ⟨XN t.files s.file (QG t.files s.file++s.bytes),t.names⟩
  else if s.kind=1 then ⟨t.files,nput t.names s.name s.file⟩
  else if s.kind=2 then if s.name=s.to then t else ⟨t.files,Nw (nput t.names s.to (UL t.names s.name)) s.name⟩
  else if s.kind=3 then ⟨t.files,Nw t.names s.name⟩
  else t
def Tre.steps (t:Tre) (l:List Stp):Tre:=l.foldl Tre.step t
def Bnd (n:Nat) (t:Tre):Prop:=∀ p∈t.files,p.2.length≤n
theorem Bnd.mono {n m:Nat} {t:Tre} (h:Bnd n t) (hm:n≤m):Bnd m t:=fun p hp=>Nat.le_trans (h p hp) hm
theorem QbM:∀ {l:List (Int × List UInt8)} {x:Int} {b:List UInt8},Z8 l x=some b→∃ p∈l,p.2=b
  | p :: l, x, b, h => by
    unfold Z8 at h
    split at h
    · injection h with h;exact ⟨p,List.mem_cons_self,h⟩
    · obtain ⟨q,hq,e⟩:=QbM h;exact ⟨q,List.mem_cons_of_mem _ hq,e⟩
theorem Bnd.get {n:Nat} {t:Tre} (h:Bnd n t) (x:Int):(QG t.files x).length≤n:=by
  unfold QG
  cases e:Z8 t.files x with
  | none=>simp
  | some b=>obtain ⟨p,hp,rfl⟩:=QbM e;exact h p hp
theorem XM:∀ {l:List (Int × List UInt8)} {x:Int} {b:List UInt8} {q:Int × List UInt8},q∈Jc l x b→q=(x,b)∨q∈l
  | [],x,b,q,h=>by simp [Jc] at h
  | p :: l, x, b, q, h => by
    unfold Jc at h
    split at h
    · rcases List.mem_cons.1 h with h | h
      · exact .inl h
      · exact (XM h).imp id (List.mem_cons_of_mem _)
    · rcases List.mem_cons.1 h with h | h
      · exact .inr (h ▸ List.mem_cons_self)
      · exact (XM h).imp id (List.mem_cons_of_mem _)
theorem QbL:∀ {l:List (Int × List UInt8)} {x:Int} {b:List UInt8} {q:Int × List UInt8},q∈JL l x b→q=(x,b)∨q∈l
  | [],x,b,q,h=>by simp [JL] at h;exact .inl h
  | p :: l, x, b, q, h => by
    unfold JL at h
    split at h
    · rcases List.mem_cons.1 h with h | h
      · exact .inl h
      · exact .inr h
    · rcases List.mem_cons.1 h with h | h
      · exact .inr (h ▸ List.mem_cons_self)
      · exact (QbL h).imp id (List.mem_cons_of_mem _)
theorem QbK {l:List (Int × List UInt8)} {x:Int} {b:List UInt8} {q:Int × List UInt8} (h:q∈XN l x b):q=(x,b)∨q∈l:=by
  unfold XN at h
  split at h
  · exact XM h
  · exact QbL h
theorem Bnd.step {n:Nat} {t:Tre} (h:Bnd n t) (s:Stp):Bnd (n+s.bytes.length) (t.step s):=by
  unfold Tre.step
  split
  · intro p hp
    rcases QbK hp with rfl | hp
    · have:=h.get s.file;rw [List.length_append];omega
    · have:=h p hp;omega
  split
  · exact h.mono (Nat.le_add_right _ _)
  split
  · split <;> exact h.mono (Nat.le_add_right _ _)
  split <;> exact h.mono (Nat.le_add_right _ _)
def Wp (l:List Stp):Nat:=(l.map fun s=>s.bytes.length+72).sum
theorem Yr (s:Stp) (l:List Stp):Wp (s::l)=s.bytes.length+72+Wp l:=by simp [Wp]
theorem Ga (l m:List Stp):Wp (l++m)=Wp l+Wp m:=by simp [Wp]
theorem Km:∀ l:List Stp,l.length * 72≤Wp l
  | []=>by simp [Wp]
  | s::l=>by have:=Km l;rw [Yr,List.length_cons];omega
theorem Bnd.steps {t:Tre}:∀ {l:List Stp} {n:Nat} {t:Tre},Bnd n t→Bnd (n+Wp l) (t.steps l)
  | [],n,t,h=>h.mono (Nat.le_add_right _ _)
  | s :: l, n, t, h => by
    have:=Bnd.steps (t:=t) (l:=l) (h.step s)
    exact this.mono (by rw [Yr];omega)
structure TreeAt (h:H) (mf mn:Nat) (t:Tre):Prop where
  bf:h.base≤mf
  bn:h.base≤mn
  ne:mf≠mn
  files:∃ es,h.get mf=.smap es∧All2 (JW h) es t.files
  names:h.get mn=.smap (t.names.map Wn)
def Two (a b:Nat):Nat→Prop:=fun i=>i=a∨i=b
theorem All2.only {L:Nat→Prop} {h h':H} {es:List (AV × AV)} {fl:List (Int × List UInt8)} (a:All2 (JW h) es fl) (o:Only L h h'):All2 (JW h') es fl:=a.imp fun _ _ _ q=>⟨q.1,q.2.only o⟩
theorem TreeAt.only {L:Nat→Prop} {h h':H} {mf mn:Nat} {t:Tre} (q:TreeAt h mf mn t) (o:Only L h h') (h1:¬ L mf) (h2:¬ L mn):TreeAt h' mf mn t:=by
  obtain ⟨es,e1,e2⟩:=q.files
  exact ⟨by rw [o.base];exact q.bf,by rw [o.base];exact q.bn,q.ne,⟨es,o.at e1 rfl h1,e2.only o⟩,o.at q.names rfl h2⟩
theorem TreeAt.lf {h:H} {mf mn:Nat} {t:Tre} (q:TreeAt h mf mn t):mf < h.next:=by
  obtain ⟨es,e1,e2⟩:=q.files
  exact H.lt_of_live (by rw [e1];rfl)
theorem TreeAt.ln {h:H} {mf mn:Nat} {t:Tre} (q:TreeAt h mf mn t):mn < h.next:=H.lt_of_live (by rw [q.names];rfl)
theorem TreeAt.wf {h:H} {mf mn:Nat} {t:Tre} (q:TreeAt h mf mn t):h.base≤h.next:=by have:=q.lf;have:=q.bf;omega
structure VT (T:Ty):Prop where
  k3:(T 3).kd=.int .i64
  k9:(T 9).kd=.str
  k31:(T 39).kd.known=true
  z31:JS T 39=some .nils
  z3:JS T 3=some (.int .i64 (Int.ofNat 0))
theorem Qdi {T:Ty} (vt:VT T) {h:H} {mf mn:Nat} {t:Tre} (q:TreeAt h mf mn t) (x:Int):∃ v,Q5 T 3 39 false (.map mf) (.int .i64 x) h=some v∧SlB h v (QG t.files x):=by
  obtain ⟨es,e1,e2⟩:=q.files
  unfold Q5
  simp only [e1]
  unfold Ki
  simp only [vt.k3,vt.k31,Kd.scalar,Bool.and_true]
  rcases findF e2 x with ⟨f1,f2⟩ | ⟨b,v,f1,f2,f3⟩
  · simp only [f2, vt.z31]
    exact ⟨_,rfl,by unfold QG;rw [f1];exact SlB.nil h⟩
  · simp only [f3]
    exact ⟨_,rfl,by unfold QG;rw [f1];exact f2⟩
theorem putF {T:Ty} (vt:VT T) {h:H} {mf mn:Nat} {t:Tre} (q:TreeAt h mf mn t) (x:Int) {v:AV} {b:List UInt8} (hv:SlB h v b) :
    ∃ es,Y3 T 3 (.map mf) (.int .i64 x) v h=some (mf,.smap es)∧All2 (JW h) es (XN t.files x b):=by
  obtain ⟨es,e1,e2⟩:=q.files
  unfold Y3 XN
  simp only [e1,vt.k3,Kd.scalar]
  rcases findF e2 x with ⟨f1,f2⟩ | ⟨b',v',f1,f2,f3⟩
  · simp only [f2]
    refine ⟨_,rfl,?_⟩
    rw [f1]
    exact insFv e2 hv
  · simp only [f3]
    refine ⟨_,rfl,?_⟩
    rw [f1]
    exact replF e2 hv
theorem DN:(Kd.int .i64).known=true:=rfl
theorem lookN {T:Ty} (vt:VT T) {h:H} {mf mn:Nat} {t:Tre} (q:TreeAt h mf mn t) (s:List UInt8):Q5 T 9 3 false (.map mn) (.str (Str.of s)) h=some (.int .i64 (UL t.names s)):=by
  unfold Q5
  simp only [q.names]
  unfold Ki UL
  simp only [vt.k9,vt.k3,DN,Kd.scalar,Bool.and_true,Qdx]
  cases Zh t.names s with
  | none=>simp only [Option.map_none,vt.z3];rfl
  | some x=>simp only [Option.map_some];rfl
theorem Qcm {T:Ty} (vt:VT T) {h:H} {mf mn:Nat} {t:Tre} (q:TreeAt h mf mn t) (s:List UInt8):Q5 T 9 3 true (.map mn) (.str (Str.of s)) h=some (.tuple [.int .i64 (UL t.names s),.bool (Zh t.names s).isSome]):=by
  unfold Q5
  simp only [q.names]
  unfold Ki UL
  simp only [vt.k9,vt.k3,DN,Kd.scalar,Bool.and_true,Qdx]
  cases Zh t.names s with
  | none=>simp only [Option.map_none,vt.z3];rfl
  | some x=>simp only [Option.map_some];rfl
theorem putN {T:Ty} (vt:VT T) {h:H} {mf mn:Nat} {t:Tre} (q:TreeAt h mf mn t) (s:List UInt8) (x:Int) :
    Y3 T 9 (.map mn) (.str (Str.of s)) (.int .i64 x) h=some (mn,.smap ((nput t.names s x).map Wn)):=by
  unfold Y3 nput
  simp only [q.names,vt.k9,Kd.scalar,Qdx]
  cases Zh t.names s with
  | none=>simp only [Option.map_none,insN];rfl
  | some y=>simp only [Option.map_some,replN];rfl
theorem Dy:∀ {l:List (List UInt8 × Int)} {s:List UInt8},Zh l s=none→Nw l s=l
  | [],_,_=>rfl
  | p :: l, s, h => by
    unfold Zh at h
    unfold Nw
    split at h
    · cases h
    · rw [if_neg (by assumption),Dy h]
theorem delNm {T:Ty} (vt:VT T) {h:H} {mf mn:Nat} {t:Tre} (q:TreeAt h mf mn t) (s:List UInt8) :
    Uu T 9 (.map mn) (.str (Str.of s)) h=some (some (mn,.smap ((Nw t.names s).map Wn))):=by
  unfold Uu
  simp only [q.names,vt.k9,Kd.scalar,Qdx]
  cases e:Zh t.names s with
  | none=>simp only [Option.map_none];rw [Dy e]
  | some y=>simp only [Option.map_some,delN]
theorem TreeAt.putF {h h':H} {mf mn:Nat} {t:Tre} {es:List (AV × AV)} {fl:List (Int × List UInt8)} (q:TreeAt h mf mn t) (o:Only (· = mf) h h') (g:h'.get mf=.smap es) (a:All2 (JW h) es fl):TreeAt h' mf mn ⟨fl,t.names⟩ :=
  ⟨by rw [o.base];exact q.bf,by rw [o.base];exact q.bn,q.ne,⟨es,g,a.only o⟩,o.at q.names rfl fun e=>q.ne e.symm⟩
theorem TreeAt.putN {h h':H} {mf mn:Nat} {t:Tre} {nl:List (List UInt8 × Int)} (q:TreeAt h mf mn t) (o:Only (· = mn) h h') (g:h'.get mn=.smap (nl.map Wn)):TreeAt h' mf mn ⟨t.files,nl⟩:=by
  obtain ⟨es,e1,e2⟩:=q.files
  exact ⟨by rw [o.base];exact q.bf,by rw [o.base];exact q.bn,q.ne,⟨es,o.at e1 rfl fun e=>q.ne e,e2.only o⟩,g⟩
theorem G6 (m:Nat):AV.same (.map m) (.map m)=true:=by simp [AV.same]
theorem U0 (kk:IntKind) (n:Int):AV.same (.int kk n) (.int kk n)=true:=by simp [AV.same]
theorem SlB.self {h:H} {v:AV} {b:List UInt8} (s:SlB h v b):AV.same v v=true:=by
  rcases s with ⟨rfl,rfl⟩ | ⟨id,off,cap,ex,t,f,sg,l,rfl,_⟩ <;> simp [AV.same]
theorem Low.only {h h':H} (l:Low h.next h h'):Only noL h h' :=
  ⟨l.base,l.next,fun i hi _=>l.get i hi,fun i t f g s e=>l.get i (H.lt_of_live (by rw [e];rfl))⟩
theorem Only.low {h h1 h2:H} (o:Only noL h h1) (l:Low h.next h1 h2):Only noL h h2 :=
  ⟨l.base.trans o.base,Nat.le_trans o.next l.next,fun i hi hn=>(l.get i hi).trans (o.get i hi hn),fun i t f g s e=>(l.get i (H.lt_of_live (by rw [e];rfl))).trans (o.byt i t f g s e)⟩
end Go.Am
