import Derived.Test.YtfgdelkdmdmfgaaDoorVxP
namespace Go.Am
open Go
set_option linter.all false
theorem Vq {α:Type} {o:Option α} (h:¬ o.isSome=true):o=none:=by cases o with
  | none=>rfl
  | some x=>exact absurd rfl h
theorem DU (p:Int × List UInt8) (l:List (Int × List UInt8)) (x:Int):Z8 (p::l) x=if p.1=x then some p.2 else Z8 l x:=rfl
theorem Dx (p:List UInt8 × Int) (l:List (List UInt8 × Int)) (x:List UInt8):Zh (p::l) x=if p.1=x then some p.2 else Zh l x:=rfl
theorem Ka : ∀ {l : List (Int × List UInt8)} {x y : Int} {b : List UInt8}, (Z8 l x).isSome = true → Z8 (Jc l x b) y = if x = y then some b else Z8 l y
  | [],x,y,b,h=>by cases h
  | p :: l, x, y, b, h => by
    unfold Jc
    by_cases hp:p.1=x
    · rw [if_pos hp]
      unfold Z8
      by_cases hxy:x=y
      · rw [if_pos hxy,if_pos hxy]
      · rw [if_neg hxy, if_neg hxy, if_neg (by rw [hp]; exact hxy)]
        by_cases hl:(Z8 l x).isSome=true
        · rw [Ka hl,if_neg hxy]
        · clear h hp p
          induction l with
          | nil=>rfl
          | cons q l ih =>
            have hl':=Vq hl
            unfold Z8 at hl'
            split at hl'
            · cases hl'
            · rename_i hq
              unfold Jc
              rw [if_neg hq,DU,DU,ih (by rw [hl'];simp)]
    · rw [if_neg hp]
      have h':(Z8 l x).isSome=true:=by unfold Z8 at h;rw [if_neg hp] at h;exact h
      unfold Z8
      by_cases hq:p.1=y
      · rw [if_pos hq,if_pos hq,if_neg (fun e=>hp (hq.trans e.symm))]
      · rw [if_neg hq,if_neg hq,Ka h']
theorem UA:∀ {l:List (Int × List UInt8)} {x y:Int} {b:List UInt8},Z8 l x=none→Z8 (JL l x b) y=if x=y then some b else Z8 l y
  | [],x,y,b,h=>by unfold JL;unfold Z8;rfl
  | p :: l, x, y, b, h => by
    unfold Z8 at h
    split at h
    · cases h
    rename_i hp
    unfold JL
    split
    · show (if x=y then some b else Z8 (p::l) y)=_;rfl
    · unfold Z8
      by_cases hq:p.1=y
      · rw [if_pos hq,if_pos hq,if_neg (fun e=>hp (hq.trans e.symm))]
      · rw [if_neg hq,if_neg hq,UA h]
theorem fget_fput {l:List (Int × List UInt8)} {x y:Int} {b:List UInt8}:Z8 (XN l x b) y=if x=y then some b else Z8 l y:=by
  unfold XN
  split
  · rename_i h;exact Ka h
  · rename_i h;exact UA (Vq h)
theorem Je {l:List (Int × List UInt8)} {x y:Int} {b:List UInt8}:QG (XN l x b) y=if x=y then b else QG l y:=by
  unfold QG;rw [fget_fput];split <;> rfl
theorem J9 : ∀ {l : List (List UInt8 × Int)} {x y : List UInt8} {b : Int}, (Zh l x).isSome = true → Zh (nrepl l x b) y = if x = y then some b else Zh l y
  | [],x,y,b,h=>by cases h
  | p :: l, x, y, b, h => by
    unfold nrepl
    by_cases hp:p.1=x
    · rw [if_pos hp]
      unfold Zh
      by_cases hxy:x=y
      · rw [if_pos hxy,if_pos hxy]
      · rw [if_neg hxy, if_neg hxy, if_neg (by rw [hp]; exact hxy)]
        by_cases hl:(Zh l x).isSome=true
        · rw [J9 hl,if_neg hxy]
        · clear h hp p
          induction l with
          | nil=>rfl
          | cons q l ih =>
            have hl':=Vq hl
            unfold Zh at hl'
            split at hl'
            · cases hl'
            · rename_i hq
              unfold nrepl
              rw [if_neg hq,Dx,Dx,ih (by rw [hl'];simp)]
    · rw [if_neg hp]
      have h':(Zh l x).isSome=true:=by unfold Zh at h;rw [if_neg hp] at h;exact h
      unfold Zh
      by_cases hq:p.1=y
      · rw [if_pos hq,if_pos hq,if_neg (fun e=>hp (hq.trans e.symm))]
      · rw [if_neg hq,if_neg hq,J9 h']
theorem Dw:∀ {l:List (List UInt8 × Int)} {x y:List UInt8} {b:Int},Zh l x=none→Zh (nins l x b) y=if x=y then some b else Zh l y
  | [],x,y,b,h=>by unfold nins;unfold Zh;rfl
  | p :: l, x, y, b, h => by
    unfold Zh at h
    split at h
    · cases h
    rename_i hp
    unfold nins
    split
    · show (if x=y then some b else Zh (p::l) y)=_;rfl
    · unfold Zh
      by_cases hq:p.1=y
      · rw [if_pos hq,if_pos hq,if_neg (fun e=>hp (hq.trans e.symm))]
      · rw [if_neg hq,if_neg hq,Dw h]
theorem V8 {l:List (List UInt8 × Int)} {x y:List UInt8} {b:Int}:Zh (nput l x b) y=if x=y then some b else Zh l y:=by
  unfold nput
  split
  · rename_i h;exact J9 h
  · rename_i h;exact Dw (Vq h)
theorem Qbt:∀ {l:List (List UInt8 × Int)} {s:List UInt8} {x:Int},Zh l s=some x→(s,x)∈l
  | p :: l, s, x, h => by
    unfold Zh at h
    split at h
    · rename_i hp;injection h with h;subst hp h;exact List.mem_cons_self
    · exact List.mem_cons_of_mem _ (Qbt h)
theorem Qbr:∀ {l:List (List UInt8 × Int)} {s:List UInt8} {x:Int} {q:List UInt8 × Int},q∈nins l s x→q.1=s∨q∈l
  | [],s,x,q,h=>by simp [nins] at h;exact .inl (by rw [h])
  | p :: l, s, x, q, h => by
    unfold nins at h
    split at h
    · rcases List.mem_cons.1 h with rfl | h
      · exact .inl rfl
      · exact .inr h
    · rcases List.mem_cons.1 h with rfl | h
      · exact .inr List.mem_cons_self
      · exact (Qbr h).imp id (List.mem_cons_of_mem _)
theorem Qfd:∀ a:List UInt8,Op.bytesLess a a=false
  | []=>rfl
  | a :: x => by
    unfold Op.bytesLess
    rw [Qfd x,Bool.and_false,Bool.or_false]
    exact decide_eq_false (UInt8.lt_irrefl a)
theorem QdF {a b:UInt8} {x y:List UInt8}:Op.bytesLess (a::x) (b::y)=true ↔ a < b∨a=b∧Op.bytesLess x y=true:=by
  show (decide (a < b) || (a == b && Op.bytesLess x y))=true ↔ _
  rw [Bool.or_eq_true,Bool.and_eq_true,decide_eq_true_iff,beq_iff_eq]
theorem QbX:∀ {a b c:List UInt8},Op.bytesLess a b=true→Op.bytesLess b c=true→Op.bytesLess a c=true
  | [],[],_,h,_=>by cases h
  | _::_,[],_,h,_=>by cases h
  | _,_::_,[],_,h=>by cases h
  | [],_::_,_::_,_,_=>rfl
  | a :: x, b :: y, c :: z, h, h' => by
    rw [QdF] at h h' ⊢
    rcases h with h | ⟨rfl,h⟩
    · rcases h' with h' | ⟨rfl, h'⟩
      · exact .inl (UInt8.lt_trans h h')
      · exact .inl h
    · rcases h' with h' | ⟨rfl, h'⟩
      · exact .inl h'
      · exact .inr ⟨rfl,QbX h h'⟩
theorem QbY:∀ {a b:List UInt8},¬ Op.bytesLess a b=true→a≠b→Op.bytesLess b a=true
  | [],[],_,h=>absurd rfl h
  | [],_::_,h,_=>absurd rfl h
  | _::_,[],_,_=>rfl
  | a :: x, b :: y, h, hn => by
    rw [QdF] at h ⊢
    by_cases hab:a=b
    · subst hab
      exact .inr ⟨rfl,QbY (fun c=>h (.inr ⟨rfl,c⟩)) fun e=>hn (by rw [e])⟩
    · left
      rcases UInt8.lt_or_lt_of_ne hab with c | c
      · exact absurd (.inl c) h
      · exact c
theorem QdE {a b:List UInt8} (h:Op.bytesLess a b=true):a≠b:=fun e=>by rw [e,Qfd] at h;cases h
def NS (l:List (List UInt8 × Int)):Prop:=l.Pairwise fun p q=>Op.bytesLess p.1 q.1=true
theorem Xv:∀ {l:List (List UInt8 × Int)} {s:List UInt8} {x:Int} {q:List UInt8 × Int},q∈nrepl l s x→∃ r∈l,r.1=q.1
  | r :: l, s, x, q, hq => by
    unfold nrepl at hq
    split at hq
    · rename_i hr
      rcases List.mem_cons.1 hq with rfl | hq
      · exact ⟨r,List.mem_cons_self,hr⟩
      · obtain ⟨r',h1,h2⟩:=Xv hq;exact ⟨r',List.mem_cons_of_mem _ h1,h2⟩
    · rcases List.mem_cons.1 hq with rfl | hq
      · exact ⟨_,List.mem_cons_self,rfl⟩
      · obtain ⟨r',h1,h2⟩:=Xv hq;exact ⟨r',List.mem_cons_of_mem _ h1,h2⟩
theorem NS.nrepl:∀ {l:List (List UInt8 × Int)} {s:List UInt8} {x:Int},NS l→NS (nrepl l s x)
  | [],_,_,_=>.nil
  | p :: l, s, x, h => by
    have h:=List.pairwise_cons.1 h
    have key:∀ q∈Am.nrepl l s x,Op.bytesLess p.1 q.1=true:=by
      intro q hq
      obtain ⟨r,hr,e⟩:=Xv hq
      rw [← e];exact h.1 r hr
    unfold Am.nrepl
    split
    · rename_i hp
      exact List.pairwise_cons.2 ⟨fun q hq=>by have:=key q hq;rw [hp] at this;exact this,NS.nrepl h.2⟩
    · exact List.pairwise_cons.2 ⟨key,NS.nrepl h.2⟩
theorem NS.nins:∀ {l:List (List UInt8 × Int)} {s:List UInt8} {x:Int},NS l→Zh l s=none→NS (nins l s x)
  | [],s,x,_,_=>List.pairwise_singleton _ _
  | p :: l, s, x, h, hn => by
    have h:=List.pairwise_cons.1 h
    unfold Zh at hn
    split at hn
    · cases hn
    rename_i hp
    unfold Am.nins
    split
    · rename_i hl
      refine List.pairwise_cons.2 ⟨fun q hq=>?_,List.pairwise_cons.2 h⟩
      rcases List.mem_cons.1 hq with rfl | hq
      · exact hl
      · exact QbX hl (h.1 q hq)
    · rename_i hl
      refine List.pairwise_cons.2 ⟨fun q hq=>?_,NS.nins h.2 hn⟩
      rcases Qbr hq with e | hq
      · rw [e];exact QbY hl fun e=>hp e.symm
      · exact h.1 q hq
theorem NS.nput {l:List (List UInt8 × Int)} {s:List UInt8} {x:Int} (h:NS l):NS (nput l s x):=by
  unfold Am.nput
  split
  · exact h.nrepl
  · rename_i hn;exact h.nins (Vq hn)
theorem NS.get:∀ {l:List (List UInt8 × Int)} {p:List UInt8 × Int},NS l→p∈l→Zh l p.1=some p.2
  | q :: l, p, h, hm => by
    have h:=List.pairwise_cons.1 h
    unfold Zh
    rcases List.mem_cons.1 hm with rfl | hm
    · rw [if_pos rfl]
    · rw [if_neg (QdE (h.1 p hm)),NS.get h.2 hm]
theorem Dv:∀ {l:List (List UInt8 × Int)} {s:List UInt8} {x:Int},(nrepl l s x).length=l.length
  | [],_,_=>rfl
  | p :: l, s, x => by
    have:=Dv (l:=l) (s:=s) (x:=x)
    unfold nrepl
    split <;> simp <;> omega
theorem Qbs:∀ {l:List (List UInt8 × Int)} {s:List UInt8} {x:Int},(nins l s x).length=l.length+1
  | [],_,_=>rfl
  | p :: l, s, x => by
    have:=Qbs (l:=l) (s:=s) (x:=x)
    unfold nins
    split <;> simp <;> omega
theorem nput_len {l:List (List UInt8 × Int)} {s:List UInt8} {x:Int}:(nput l s x).length≤l.length+1:=by
  unfold nput
  split
  · rw [Dv];omega
  · rw [Qbs];exact Nat.le_refl _
structure GoodN (nx:Int) (c:Nat) (l:List (List UInt8 × Int)):Prop where
  ns:NS l
  inj:∀ s t x,Zh l s=some x→Zh l t=some x→s=t
  lt:∀ s x,Zh l s=some x→0≤x∧x < nx
  len:l.length≤c
  nmd:∀ s x,Zh l s=some x→named s=true
theorem GoodN.nil (nx:Int) (c:Nat):GoodN nx c []:=⟨.nil,fun s t x h=>(by cases h),fun s x h=>(by cases h),Nat.zero_le _,fun s x h=>(by cases h)⟩
theorem GoodN.mono {nx nx':Int} {c c':Nat} {l:List (List UInt8 × Int)} (g:GoodN nx c l) (h1:nx≤nx') (h2:c≤c'):GoodN nx' c' l:=⟨g.ns,g.inj,fun s x h=>⟨(g.lt s x h).1,Int.lt_of_lt_of_le (g.lt s x h).2 h1⟩,Nat.le_trans g.len h2,g.nmd⟩
theorem GoodN.nodup {nx:Int} {c:Nat} {l:List (List UInt8 × Int)} (g:GoodN nx c l):(l.map (·.2)).Nodup:=by
  rw [List.Nodup,List.pairwise_map]
  refine List.Pairwise.imp_of_mem (fun {p q} hp hq hl=>?_) g.ns
  intro e
  have:=g.inj p.1 q.1 p.2 (g.ns.get hp) (by rw [e];exact g.ns.get hq)
  exact QdE hl this
theorem GoodN.put {nx:Int} {c:Nat} {l:List (List UInt8 × Int)} (g:GoodN nx c l) (h0:0≤nx) {s:List UInt8} (hs:named s=true):GoodN (nx+1) (c+1) (nput l s nx):=by
  refine ⟨g.ns.nput,fun a b x ha hb=>?_,fun a x ha=>?_,?_,fun a x ha=>?_⟩
  rotate_left 3
  · rw [V8] at ha
    split at ha
    · rename_i e;rw [← e];exact hs
    · exact g.nmd a x ha
  · rw [V8] at ha hb
    split at ha
    · rename_i h1
      split at hb
      · rename_i h2;exact h1.symm.trans h2
      · injection ha with ha;have:=(g.lt b x hb).2;omega
    · split at hb
      · injection hb with hb;have:=(g.lt a x ha).2;omega
      · exact g.inj a b x ha hb
  · rw [V8] at ha
    split at ha
    · injection ha with ha;omega
    · have:=g.lt a x ha;omega
  · have:=nput_len (l:=l) (s:=s) (x:=nx);have:=g.len;omega
end Go.Am
namespace Go.Am
open Go
set_option linter.all false
def UK (l:List (List UInt8 × Int)) (s:Stp):List (List UInt8 × Int) :=
  if s.kind=0 then l
  else if s.kind=1 then nput l s.name s.file
  else if s.kind=2 then if s.name=s.to then l else Nw (nput l s.to (UL l s.name)) s.name
  else if s.kind=3 then Nw l s.name
  else l
def ZL (l:List (List UInt8 × Int)) (ss:List Stp):List (List UInt8 × Int):=ss.foldl UK l
theorem step_names (t:Tre) (s:Stp):(t.step s).names=UK t.names s:=by
  unfold Tre.step UK
  repeat' split
  all_goals rfl
theorem ZR:∀ (ss:List Stp) (t:Tre),(t.steps ss).names=ZL t.names ss
  | [],t=>rfl
  | s :: ss, t => by
    show ((t.step s).steps ss).names=ZL (UK t.names s) ss
    rw [ZR ss,step_names]
theorem Nu (l:List (List UInt8 × Int)) (a b:List Stp):ZL l (a++b)=ZL (ZL l a) b:=by simp [ZL]
theorem Qc7 {l:List (List UInt8 × Int)} {s:Stp} (h:s.kind=0):UK l s=l:=by unfold UK;rw [if_pos h]
theorem U7:∀ {ss:List Stp} {l:List (List UInt8 × Int)},(∀ s∈ss,s.kind=0)→ZL l ss=l
  | [],_,_=>rfl
  | s :: ss, l, h => by
    show ZL (UK l s) ss=l
    rw [Qc7 (h s List.mem_cons_self)]
    exact U7 fun r hr=>h r (List.mem_cons_of_mem _ hr)
theorem WB {p:Stp→Bool} (hp:∀ s,p s=false→s.kind=0):∀ {ss:List Stp} {l:List (List UInt8 × Int)},ZL l (ss.filter p)=ZL l ss
  | [],_=>rfl
  | s :: ss, l => by
    cases h:p s with
    | true =>
      rw [List.filter_cons_of_pos h]
      exact WB hp
    | false =>
      rw [List.filter_cons_of_neg (by rw [h];simp)]
      rw [WB hp]
      show _=ZL (UK l s) ss
      rw [Qc7 (hp s h)]
theorem Vs {p : Stp → Bool} : ∀ (ss : List Stp) (j : Nat), ∃ j', (ss.filter p).take j = (ss.take j').filter p
  | [],j=>⟨0,by simp⟩
  | s :: ss, j => by
    cases h:p s with
    | false =>
      obtain ⟨j',e⟩:=Vs (p:=p) ss j
      exact ⟨j'+1,by rw [List.filter_cons_of_neg (by rw [h];simp),List.take_succ_cons,List.filter_cons_of_neg (by rw [h];simp),e]⟩
    | true =>
      rw [List.filter_cons_of_pos h]
      cases j with
      | zero=>exact ⟨0,rfl⟩
      | succ j =>
        obtain ⟨j',e⟩:=Vs (p:=p) ss j
        exact ⟨j'+1,by rw [List.take_succ_cons,List.take_succ_cons,List.filter_cons_of_pos h,e]⟩
theorem GW (p:Stp→Bool):∀ l:List Stp,Wp (l.filter p)+Wp (l.filter fun s=>!p s)=Wp l
  | []=>rfl
  | s :: l => by
    have:=GW p l
    cases h:p s with
    | true=>rw [List.filter_cons_of_pos h,List.filter_cons_of_neg (by rw [h];simp),Yr,Yr];omega
    | false=>rw [List.filter_cons_of_neg (by rw [h];simp),List.filter_cons_of_pos (by rw [h];simp),Yr,Yr];omega
structure Inv (fs:Fs) (N c:Nat):Prop where
  fit:fs.Fits N
  nm:∀ j,GoodN fs.next c (ZL fs.sure.names (fs.wait.take j))
  full:∀ s∈fs.wait,s.kind=0→s.bytes≠[]
  nx:0≤fs.next∧fs.next≤(c:Int)
  st:0≤fs.steps∧fs.steps≤(N:Int)
  lf:fs.fused=true→0≤fs.left∧fs.left < 9223372036854775808
theorem Inv.mono {fs:Fs} {N c N' c':Nat} (i:Inv fs N c) (h1:N≤N') (h2:c≤c'):Inv fs N' c' :=
  ⟨i.fit.mono h1,fun j=>(i.nm j).mono (Int.le_refl _) h2,i.full,⟨i.nx.1,by have:=i.nx.2;omega⟩,⟨i.st.1,by have:=i.st.2;omega⟩,i.lf⟩
theorem Inv.held {fs:Fs} {N c:Nat} (i:Inv fs N c):GoodN fs.next c fs.held.names:=by
  have:=i.nm fs.wait.length
  rw [List.take_length] at this
  unfold Fs.held
  rw [ZR];exact this
theorem Inv.sure {fs:Fs} {N c:Nat} (i:Inv fs N c):GoodN fs.next c fs.sure.names:=i.nm 0
theorem Inv.raw_or {fs:Fs} {N c:Nat} (i:Inv fs N c) (hN:N≤Qe) :
    (fs.raw=(7,{ fs with off:=true })∧fs.fused=true∧fs.left=0)∨(fs.raw=(0,{ fs with left:=if fs.fused then fs.left - 1 else fs.left,steps:=fs.steps+1 })∧(fs.fused=true→0 < fs.left)):=by
  have hm:Qe=140737488355328:=rfl
  obtain ⟨s1,s2⟩:=i.st
  have e:Qd .i64 (Int.add fs.steps 1)=fs.steps+1:=WC (by show _≤fs.steps+1;omega) (by show fs.steps+1 < _;omega)
  unfold Fs.raw
  rw [e]
  cases hf:fs.fused with
  | false=>exact .inr ⟨rfl,fun h=>by cases h⟩
  | true =>
    obtain ⟨l1,l2⟩:=i.lf hf
    by_cases h0:fs.left=0
    · rw [decide_eq_true h0];exact .inl ⟨rfl,rfl,h0⟩
    · rw [decide_eq_false h0]
      have e2:Qd .i64 (Int.sub fs.left 1)=fs.left - 1:=WC (by show _≤fs.left - 1;omega) (by show fs.left - 1 < _;omega)
      refine .inr ⟨?_,fun _=>by omega⟩
      rw [e2];rfl
theorem Inv.off {fs:Fs} {N c:Nat} (i:Inv fs N c) (b:Bool):Inv { fs with off:=b } N c:=⟨i.fit,i.nm,i.full,i.nx,i.st,i.lf⟩
theorem Inv.raw {fs:Fs} {N c:Nat} (i:Inv fs N c) (hN:N≤Qe):Inv fs.raw.2 (N+1) c:=by
  rcases i.raw_or hN with ⟨e,_,_⟩ | ⟨e,hl⟩
  · rw [e];exact (i.off true).mono (by omega) (Nat.le_refl _)
  · rw [e]
    refine ⟨i.fit.mono (by omega),i.nm,i.full,i.nx,?_,fun hf=>?_⟩
    · have:=i.st;show 0≤fs.steps+1∧fs.steps+1≤_;omega
    · have hf : fs.fused = true := hf
      have h1:=hl hf
      have h2:=i.lf hf
      show 0≤(if fs.fused then fs.left - 1 else fs.left)∧(if fs.fused then fs.left - 1 else fs.left) < _
      rw [hf]
      show 0≤fs.left - 1∧fs.left - 1 < _
      omega
theorem Ky (fs:Fs):fs.raw.2.next=fs.next:=by unfold Fs.raw;split <;> rfl
theorem Inv.pend {fs : Fs} {N c c' : Nat} {s : Stp} (i : Inv fs N c) (hN : N ≤ Qe) (hc : c ≤ c') (hs : GoodN fs.next c' (UK fs.held.names s)) (hb : s.kind = 0 → s.bytes ≠ []) : Inv (fs.pend s).2 (N + (s.bytes.length + 72)) c' := by
  have ir:=i.raw hN
  have fp:=i.fit.pend s
  unfold Fs.pend at fp ⊢
  split
  · rename_i h0
    rw [if_pos h0] at fp
    refine ⟨fp,fun j=>?_,fun r hr=>?_,?_,?_,?_⟩
    · show GoodN fs.raw.2.next c' (ZL fs.raw.2.sure.names ((fs.wait ++ [s]).take j))
      rw [Ky,Fs.raw_sure]
      by_cases hj:j≤fs.wait.length
      · rw [List.take_append_of_le_length hj];exact (i.nm j).mono (Int.le_refl _) hc
      · rw [List.take_of_length_le (by simp; omega), Nu]
        have e:fs.held.names=ZL fs.sure.names fs.wait:=by unfold Fs.held;rw [ZR]
        rw [← e];exact hs
    · have hr : r ∈ fs.wait ++ [s] := hr
      rcases List.mem_append.1 hr with hr | hr
      · exact i.full r hr
      · rw [List.mem_singleton.1 hr];exact hb
    · have:=ir.nx;exact ⟨this.1,by have h2:=this.2;show fs.raw.2.next≤_;omega⟩
    · have:=ir.st;exact ⟨this.1,by have h2:=this.2;show fs.raw.2.steps≤_;omega⟩
    · exact ir.lf
  · exact ir.mono (by omega) hc
theorem pend_next {fs:Fs} {s:Stp} {n:Int}:{ (fs.pend s).2 with next:=n }=(({ fs with next:=n }:Fs).pend s).2:=by
  unfold Fs.pend Fs.raw
  dsimp only
  by_cases h:(fs.fused && decide (fs.left=0))=true
  · rw [if_pos h,if_pos h];rfl
  · rw [if_neg h,if_neg h];rfl
theorem Qc1 (fs:Fs) (s:Stp):(fs.pend s).2.next=fs.next:=by
  unfold Fs.pend
  split
  · exact Ky fs
  · exact Ky fs
theorem Inv.next {fs:Fs} {N c:Nat} (i:Inv fs N c):Inv { fs with next:=fs.next+1 } N (c+1) :=
  ⟨i.fit,fun j=>(i.nm j).mono (by show fs.next≤fs.next+1;omega) (by omega),i.full,by have:=i.nx;show 0≤fs.next+1∧fs.next+1≤_;omega,i.st,i.lf⟩
theorem named_of {fs:Fs} {l:List (List UInt8)} (h:¬ fs.asked l≠0):l.all named=true:=by
  have h:=Decidable.not_not.1 h
  unfold Fs.asked at h
  split at h
  · cases h
  · split at h
    · assumption
    · cases h
theorem Inv.create {fs:Fs} {N c:Nat} (i:Inv fs N c) (hN:N≤Qe) (hc:c≤Qe) (s:List UInt8):Inv (fs.create s).2 (N+72) (c+1):=by
  have hm:Qe=140737488355328:=rfl
  unfold Fs.create
  split
  · exact i.mono (by omega) (by omega)
  rename_i hnm
  have hnm:named s=true:=by simpa using named_of hnm
  split
  · exact i.mono (by omega) (by omega)
  show Inv { (fs.pend ⟨1,s,[],fs.next,[]⟩).2 with next:=Qd .i64 (Int.add (fs.pend ⟨1,s,[],fs.next,[]⟩).2.next 1) } _ _
  rw [Qc1]
  have:=i.nx
  rw [show Qd .i64 (Int.add fs.next 1)=fs.next+1 from WC (by show _≤fs.next+1;omega) (by show fs.next+1 < _;omega)]
  rw [pend_next]
  refine (i.next.pend hN (Nat.le_refl _) ?_ (fun h=>by cases h))
  show GoodN (fs.next+1) (c+1) (UK fs.held.names ⟨1,s,[],fs.next,[]⟩)
  exact i.held.put this.1 hnm
theorem Inv.puts {n : Int} {b : List UInt8} : ∀ {m j : Nat} {fs : Fs} {N c : Nat}, Inv fs N c → N + 73 * (b.length - j) ≤ Qe → Inv (fs.puts n b m j).2 (N + 73 * (b.length - j)) c
  | 0,j,fs,N,c,i,h=>i.mono (by omega) (Nat.le_refl _)
  | m + 1, j, fs, N, c, i, h => by
    unfold Fs.puts
    by_cases hj:j < b.length
    · rw [if_pos hj]
      have hl:((b.drop j).take 64).length=min 64 (b.length - j):=by simp
      have ip:=i.pend (s:=⟨0,[],[],n,(b.drop j).take 64⟩) (by omega) (Nat.le_refl _) (i.held) (fun _ e=>by
        have e:(b.drop j).take 64=[]:=e
        have:=congrArg List.length e;rw [hl] at this;simp at this;omega)
      have hl:(({ kind:=0,name:=[],to:=[],file:=n,bytes:=(b.drop j).take 64 }:Stp).bytes).length=min 64 (b.length - j):=hl
      rw [hl] at ip
      split
      · exact (Inv.puts (m:=m) (j:=j+64) ip (by omega)).mono (by omega) (Nat.le_refl _)
      · exact ip.mono (by omega) (Nat.le_refl _)
    · rw [if_neg hj];exact i.mono (by omega) (Nat.le_refl _)
theorem Inv.append {fs:Fs} {N c:Nat} (i:Inv fs N c) (s b:List UInt8) (h:N+73 * b.length≤Qe):Inv (fs.append s b).2 (N+73 * b.length) c:=by
  unfold Fs.append
  split
  · exact i.mono (by omega) (Nat.le_refl _)
  split
  · exact i.mono (by omega) (Nat.le_refl _)
  exact i.puts h
theorem Inv.settle {fs : Fs} {N c : Nat} {p : Stp → Bool} (i : Inv fs N c) (hN : N ≤ Qe) (hp : (∀ s, p s = true → s.kind = 0) ∨ (∀ s, p s = !decide (s.kind = 0))) : Inv (fs.settle p).2 (N + 1) c := by
  have ir:=i.raw hN
  unfold Fs.settle
  split
  · obtain ⟨n, h1, h2⟩ := i.fit
    refine ⟨⟨n+Wp (fs.wait.filter p),h1.steps (t:=fs.sure),?_⟩,fun j=>?_,fun r hr=>i.full r (List.mem_filter.1 hr).1,ir.nx,ir.st,ir.lf⟩
    · show _ + Wp (fs.wait.filter fun s => !p s) ≤ _
      have:=GW p fs.wait;omega
    · show GoodN fs.raw.2.next c (ZL (fs.sure.steps (fs.wait.filter p)).names ((fs.wait.filter fun s => !p s).take j))
      rw [Ky,ZR]
      rcases hp with hp | hp
      · rw [U7 fun s hs => hp s (List.mem_filter.1 hs).2]
        obtain ⟨j',e⟩:=Vs (p:=fun s=>!p s) fs.wait j
        rw [e,WB fun s hs=>hp s (by simpa using hs)]
        exact i.nm j'
      · rw [WB (p := p) fun s hs => by rw [hp] at hs; simpa using hs]
        rw [U7 fun s hs=>by
          have:=(List.mem_filter.1 (List.mem_of_mem_take hs)).2
          rw [hp] at this;simpa using this]
        have:=i.nm fs.wait.length
        rw [List.take_length] at this
        exact this
  · exact ir
theorem Inv.sync {fs:Fs} {N c:Nat} (i:Inv fs N c) (hN:N≤Qe) (s:List UInt8):Inv (fs.sync s).2 (N+1) c:=by
  unfold Fs.sync
  split
  · exact i.mono (by omega) (Nat.le_refl _)
  · refine i.settle hN (.inl fun s hs => ?_)
    unfold WX at hs
    rw [Bool.and_eq_true,decide_eq_true_iff] at hs
    exact hs.1
theorem Inv.syncNames {fs:Fs} {N c:Nat} (i:Inv fs N c) (hN:N≤Qe):Inv fs.syncNames.2 (N+1) c:=by
  unfold Fs.syncNames
  split
  · exact i.mono (by omega) (Nat.le_refl _)
  · exact i.settle hN (.inr fun s=>rfl)
theorem VS (fs:Fs) (k t:Nat):ZL fs.sure.names (fs.crashed k t)=ZL fs.sure.names (fs.wait.take k):=by
  unfold Fs.crashed
  rw [Nu]
  refine U7 fun s hs=>?_
  split at hs
  · rename_i r e
    split at hs
    · rename_i h;rw [List.mem_singleton.1 hs];exact h
    · cases hs
  · cases hs
theorem NN {fl : List (Int × List UInt8)} {y : Int} : ∀ {l : List (List UInt8 × Int)} {acc : List (Int × List UInt8)}, (∀ p ∈ l, Z8 acc p.2 = none) → (l.map (·.2)).Nodup → Z8 (U9 fl l acc) y = if y ∈ l.map (·.2) then some (QG fl y) else Z8 acc y
  | [],acc,_,_=>by simp [U9]
  | p :: l, acc, h, hd => by
    rw [List.map_cons,List.nodup_cons] at hd
    show Z8 (U9 fl l (JL acc p.2 (QG fl p.2))) y=_
    have hp:=h p List.mem_cons_self
    rw [NN (fun r hr=>by
      rw [UA hp,if_neg]
      · exact h r (List.mem_cons_of_mem _ hr)
      · intro e;exact hd.1 (e ▸ List.mem_map.2 ⟨r,hr,rfl⟩)) hd.2]
    rw [List.map_cons,UA hp]
    by_cases h1:y∈l.map (·.2)
    · rw [if_pos h1,if_pos (List.mem_cons_of_mem _ h1)]
    · rw [if_neg h1]
      by_cases h2:p.2=y
      · rw [if_pos h2,if_pos (by rw [h2];exact List.mem_cons_self),h2]
      · rw [if_neg h2, if_neg]
        intro c
        rcases List.mem_cons.1 c with c | c
        · exact h2 c.symm
        · exact h1 c
theorem fbytes_keepF {fl:List (Int × List UInt8)} {l:List (List UInt8 × Int)} {nx:Int} {c:Nat} (g:GoodN nx c l) {s:List UInt8} {x:Int} (hs:Zh l s=some x):QG (U9 fl l []) x=QG fl x:=by
  unfold QG
  rw [NN (fun _ _=>rfl) g.nodup,if_pos (List.mem_map.2 ⟨(s,x),Qbt hs,rfl⟩)]
  rfl
end Go.Am
