import Derived.Test.YtfgdelkdmdmfgaaDoorKpD
import Derived.Test.YtfgdelkdmdmfgaaDoorPxE
namespace Go.Am
open Go
set_option linter.all false
theorem K0 {x y:Int} {b:List UInt8} (h:y≠x):∀ {l:List (Int × List UInt8)},Z8 (JL l x b) y=Z8 l y
  | [] => by
    show (if x=y then some b else none)=none
    rw [if_neg fun e=>h e.symm]
  | p :: l => by
    show Z8 (if x < p.1 then (x,b)::p::l else p::JL l x b) y=_
    split
    · show (if x = y then some b else Z8 (p :: l) y) = _
      rw [if_neg fun e=>h e.symm]
    · show (if p.1 = y then some p.2 else Z8 (JL l x b) y) = (if p.1 = y then some p.2 else Z8 l y)
      rw [K0 h]
theorem QbC {fl:List (Int × List UInt8)} {y:Int}:∀ (l:List (List UInt8 × Int)) (acc:List (Int × List UInt8)),(∀ p∈l,p.2≠y)→Z8 (U9 fl l acc) y=Z8 acc y
  | [],acc,_=>rfl
  | p :: l, acc, h => by
    show Z8 (U9 fl l (JL acc p.2 (QG fl p.2))) y=_
    rw [QbC l _ fun q hq=>h q (List.mem_cons_of_mem _ hq),K0 fun e=>h p List.mem_cons_self e.symm]
theorem Qci:∀ {l:List (List UInt8 × Int)} {s:List UInt8} {x:Int},NS l→(s,x)∈l→Zh l s=some x
  | p :: l, s, x, h, hm => by
    have h:=List.pairwise_cons.1 h
    rcases List.mem_cons.1 hm with rfl | hm
    · show (if s = s then some x else _) = _
      rw [if_pos rfl]
    · show (if p.1 = s then some p.2 else Zh l s) = _
      have:=h.1 _ hm
      rw [if_neg (QdE this)]
      exact Qci h.2 hm
theorem Gp {fs:Fs} {N c:Nat} (i:Inv fs N c) {k t:Int} (hk:0≤k) (ht:0≤t) {y:Int} (hy:fs.next≤y):QG (fs.crash k t).2.sure.files y=[]:=by
  have e:(fs.crash k t).2.sure.files=U9 (fs.sure.steps (fs.crashed k.toNat t.toNat)).files (fs.sure.steps (fs.crashed k.toNat t.toNat)).names []:=by
    unfold Fs.crash;rw [if_neg (by omega)]
  have g:GoodN fs.next c (fs.sure.steps (fs.crashed k.toNat t.toNat)).names:=by
    rw [ZR,VS];exact i.nm _
  have hn:Z8 (U9 (fs.sure.steps (fs.crashed k.toNat t.toNat)).files (fs.sure.steps (fs.crashed k.toNat t.toNat)).names []) y=none:=by
    rw [QbC _ _ fun p hp=>?_]
    · rfl
    · intro e
      have:=(g.lt _ _ (Qci (s:=p.1) (x:=p.2) g.ns hp)).2
      omega
  unfold QG
  rw [e,hn];rfl
theorem create_two {fs:Fs} {N c:Nat} (i:Inv fs N c) (hN:N≤Qe) (hc:c≤Qe) (ho:fs.off=false) {s:List UInt8} (hn:named s=true) (hx:Zh fs.held.names s=none) :
    (((fs.create s).1=0∧(fs.create s).2.wait=fs.wait++[⟨1,s,[],fs.next,[]⟩]∧(fs.create s).2.off=false)∨((fs.create s).1=7∧(fs.create s).2.wait=fs.wait∧(fs.create s).2.off=true∧fs.fused=true)) ∧
    (fs.create s).2.sure=fs.sure∧(fs.create s).2.room=fs.room∧(fs.create s).2.fused=fs.fused∧(fs.create s).2.next=fs.next+1:=by
  have hm:Qe=140737488355328:=rfl
  have e:fs.create s=((fs.pend ⟨1,s,[],fs.next,[]⟩).1,{ (fs.pend ⟨1,s,[],fs.next,[]⟩).2 with next:=Qd .i64 (Int.add (fs.pend ⟨1,s,[],fs.next,[]⟩).2.next 1) }):=by
    unfold Fs.create
    rw [Jk ho (by simp [hn]),if_neg (by simp),if_neg (by rw [hx];simp)]
  have:=i.nx
  have en:Qd .i64 (Int.add (fs.pend ⟨1,s,[],fs.next,[]⟩).2.next 1)=fs.next+1:=by
    rw [Qc1];exact WC (by show _≤fs.next+1;omega) (by show fs.next+1 < _;omega)
  rw [e,en]
  rcases Nl i hN ⟨1,s,[],fs.next,[]⟩ with ⟨h1,h2,h3,h4⟩ | ⟨h1,h2,h3,h4,h5⟩
  · exact ⟨.inl ⟨h1,h3,h4.trans ho⟩,h2.sure,h2.room,h2.fused,rfl⟩
  · exact ⟨.inr ⟨h1,h3,h4,h5⟩,h2.sure,h2.room,h2.fused,rfl⟩
end Go.Am
namespace Go.Proofs.YtfgdelkdmdmfgaaDoor
open Go Go.Am
set_option linter.all false
set_option maxRecDepth 100000
abbrev Cs:=List (Int × List UInt8)
structure Lg (cs:Cs) (fs:Fs):Prop where
  nm1:∀ i (hi:i < cs.length),Zh fs.sure.names (QT (i+1))=some cs[i].1
  nm2:∀ s,(∀ i,i < cs.length→s≠QT (i+1))→Zh fs.sure.names s=none
  dat:∀ i (hi:i < cs.length),QG fs.sure.files cs[i].1=cs[i].2
  few:cs.length < 99
  room:fs.room=16777216
  fresh:∀ y,fs.next≤y→QG fs.sure.files y=[]
structure LgOn (cs:Cs) (fs:Fs):Prop where
  lg:Lg cs fs
  w:fs.wait=[]
  on:fs.off=false
def Cr (S:Cs→Prop) (fs:Fs):Prop:=∀ k t:Int,0≤k→0≤t→(fs.crash k t).1=0∧(fs.crash k t).2.fused=false∧∃ cs,S cs∧LgOn cs (fs.crash k t).2
theorem LgOn.held {cs:Cs} {fs:Fs} (o:LgOn cs fs):fs.held=fs.sure:=held_nil o.w
theorem LgOn.read_in {cs:Cs} {fs:Fs} (o:LgOn cs fs) {i:Nat} (hi:i < cs.length):fs.read (QT (i+1))=(cs[i].2,0):=by
  have:=o.lg.few
  rw [read_is o.on (Y9 _ (by omega)) (by rw [o.held];exact o.lg.nm1 i hi),o.held,o.lg.dat i hi]
theorem Qbl {fs:Fs} (ho:fs.off=false) {s:List UInt8} (hn:named s=true) (h:Zh fs.held.names s=none):fs.read s=([],4):=by
  unfold Fs.read
  rw [file_none ho hn h,if_pos (by show (4:Int)≠0;decide)]
theorem LgOn.no {cs:Cs} {fs:Fs} (o:LgOn cs fs) {n:Nat} (h1:cs.length < n) (h2:n < 100):Zh fs.held.names (QT n)=none:=by
  rw [o.held]
  refine o.lg.nm2 _ fun i hi e=>?_
  have:=V9 h2 (by omega) e
  omega
theorem LgOn.read_no {cs:Cs} {fs:Fs} (o:LgOn cs fs) {n:Nat} (h1:cs.length < n) (h2:n < 100):fs.read (QT n)=([],4) :=
  Qbl o.on (Y9 _ h2) (o.no h1 h2)
def QdW:List UInt8:=[97,110,121]
theorem anyB_named:named QdW=true:=by decide +kernel
theorem read_off {fs:Fs} (ho:fs.off=true) (s:List UInt8):fs.read s=([],7):=by
  have:fs.file s=(0,7):=by
    unfold Fs.file
    rw [asked_off ho,if_pos (by decide)]
  unfold Fs.read
  rw [this,if_pos (by show (7:Int)≠0;decide)]
theorem Lg.new:LgOn [] (Fs.new 16777216):=⟨⟨fun i hi=>absurd hi (Nat.not_lt_zero _),fun s _=>rfl,fun i hi=>absurd hi (Nat.not_lt_zero _),by decide,rfl,fun y _=>rfl⟩,rfl,rfl⟩
theorem Lg.crashW {cs : Cs} {fs : Fs} {N c : Nat} (l : Lg cs fs) (i : Inv fs N c) {x : Int} (hw : W x fs.wait) {k t : Int} (hk : 0 ≤ k) (ht : 0 ≤ t) :
    (fs.crash k t).1=0∧(fs.crash k t).2.fused=false∧∃ p,p <+: cat x fs.wait∧LgOn (cs.map fun q=>if q.1=x then (q.1,q.2++p) else q) (fs.crash k t).2:=by
  obtain ⟨h1,h2,h3,h4,h5,h6,h7,h8,h9⟩:=QbT i hk ht
  rw [hw.nm] at h8 h9
  have gs:=i.sure
  refine ⟨h1,h3,cat x (fs.crashed k.toNat t.toNat),Ji fs _ _ x,⟨⟨fun j hj=>?_,fun s hs=>?_,fun j hj=>?_,by rw [List.length_map];exact l.few,h5.trans l.room,fun y hy=>?_⟩,h4,h2⟩⟩
  · rw [List.length_map] at hj
    rw [h8,l.nm1 j hj,List.getElem_map]
    split <;> rfl
  · rw [h8]
    exact l.nm2 s fun j hj=>hs j (by rw [List.length_map];exact hj)
  · rw [List.length_map] at hj
    have e:=h9 _ _ (l.nm1 j hj)
    rw [List.getElem_map]
    by_cases hx:cs[j].1=x
    · rw [if_pos hx]
      show QG _ cs[j].1=_
      rw [e,l.dat j hj,hx]
    · rw [if_neg hx]
      rw [e,l.dat j hj]
      have:cat cs[j].1 (fs.crashed k.toNat t.toNat)=[]:=by
        have hp:=Ji fs k.toNat t.toNat cs[j].1
        have h0:∀ ws:List Stp,W x ws→cat cs[j].1 ws=[]:=by
          intro ws
          induction ws with
          | nil=>intro _;rfl
          | cons s ws ih =>
            intro h
            show (if s.kind=0∧s.file=cs[j].1 then s.bytes else [])++cat cs[j].1 ws=[]
            rw [if_neg fun e=>hx (e.2.symm.trans (h s List.mem_cons_self).2),ih fun q hq=>h q (List.mem_cons_of_mem _ hq)];rfl
        rw [h0 _ hw] at hp
        exact List.prefix_nil.1 hp
      rw [this,List.append_nil]
  · rw [h6] at hy
    exact Gp i hk ht hy
theorem map_id' (cs:Cs) (x:Int):(cs.map fun q=>if q.1=x then (q.1,q.2++[]) else q)=cs:=by
  have:(fun q:Int × List UInt8=>if q.1=x then (q.1,q.2++[]) else q)=id:=by
    funext q
    split
    · rw [List.append_nil];rfl
    · rfl
  rw [this,List.map_id]
theorem Lg.cr0 {cs:Cs} {fs:Fs} {N c:Nat} (l:Lg cs fs) (i:Inv fs N c) (hw:fs.wait=[]):Cr (fun d=>d=cs) fs:=fun k t hk ht=>by
  obtain ⟨h1,h2,p,hp,h3⟩:=l.crashW i (x:=0) (by rw [hw];exact fun s hs=>by cases hs) hk ht
  rw [hw] at hp
  obtain rfl:=List.prefix_nil.1 hp
  rw [map_id'] at h3
  exact ⟨h1,h2,cs,rfl,h3⟩
theorem Lg.add {cs:Cs} {fs fs':Fs} (l:Lg cs fs) (few:cs.length+1 < 99) {x:Int} (hx:QG fs.sure.files x=[]) (hn:∀ s,Zh fs'.sure.names s=if QT (cs.length+1)=s then some x else Zh fs.sure.names s) (hf:∀ y,QG fs'.sure.files y=QG fs.sure.files y∨(QG fs'.sure.files y=[]∧∀ i (hi:i < cs.length),cs[i].1≠y)) (hr:fs'.room=fs.room) (hy:∀ y,fs'.next≤y→QG fs'.sure.files y=[]):Lg (cs++[(x,[])]) fs':=by
  refine ⟨fun j hj=>?_,fun s hs=>?_,fun j hj=>?_,by simp;omega,hr.trans l.room,hy⟩
  · rw [List.length_append] at hj
    have hj:j < cs.length+1:=hj
    rw [hn]
    by_cases h:j < cs.length
    · rw [if_neg fun e=>by have:=V9 (by omega) (by omega) e;omega,l.nm1 j h,List.getElem_append_left h]
    · have : j = cs.length := by omega
      subst this
      rw [if_pos rfl,List.getElem_append_right (Nat.le_refl _)];simp
  · rw [hn]
    have h1:=hs cs.length (by simp)
    rw [if_neg fun e=>h1 e.symm]
    exact l.nm2 s fun j hj=>hs j (by simp;omega)
  · rw [List.length_append] at hj
    have hj:j < cs.length+1:=hj
    by_cases h:j < cs.length
    · rw [List.getElem_append_left h]
      rcases hf cs[j].1 with e | ⟨_,e⟩
      · rw [e,l.dat j h]
      · exact absurd rfl (e j h)
    · have : j = cs.length := by omega
      subst this
      rw [List.getElem_append_right (Nat.le_refl _)]
      simp only [Nat.sub_self,List.getElem_cons_zero]
      rcases hf x with e | ⟨e,_⟩
      · rw [e,hx]
      · exact e
theorem Lg.crashN {cs : Cs} {fs : Fs} {N c : Nat} (l : Lg cs fs) (i : Inv fs N c) (few : cs.length + 1 < 99) {x : Int} (hx : QG fs.sure.files x = []) (hw : fs.wait = [⟨1, QT (cs.length + 1), [], x, []⟩]) : Cr (fun d => d = cs ∨ d = cs ++ [(x, [])]) fs := fun k t hk ht => by
  obtain ⟨h1,h2,h3,h4,h5,h6,h7,h8,h9⟩:=QbT i hk ht
  have hcat:∀ y,cat y (fs.crashed k.toNat t.toNat)=[]:=fun y=>by
    have hp:=Ji fs k.toNat t.toNat y
    have h0:cat y fs.wait=[]:=by
      rw [hw]
      show (if (1:Int)=0∧x=y then _ else [])++[]=[]
      rw [if_neg (by intro h;exact absurd h.1 (by decide))];rfl
    rw [h0] at hp
    exact List.prefix_nil.1 hp
  have hf:∀ s y,Zh (fs.crash k t).2.sure.names s=some y→QG (fs.crash k t).2.sure.files y=QG fs.sure.files y:=fun s y e=>by
    rw [h8] at e
    rw [h9 s y e,hcat,List.append_nil]
  have hfr:∀ y,(fs.crash k t).2.next≤y→QG (fs.crash k t).2.sure.files y=[]:=fun y hy=>Gp i hk ht (by rw [h6] at hy;exact hy)
  refine ⟨h1,h3,?_⟩
  by_cases k0:k.toNat=0
  · have hn : (fs.crash k t).2.sure.names = fs.sure.names := by rw [h8, k0]; rfl
    refine ⟨cs,.inl rfl,⟨⟨fun j hj=>by rw [hn];exact l.nm1 j hj,fun s hs=>by rw [hn];exact l.nm2 s hs,fun j hj=>?_,l.few,h5.trans l.room,hfr⟩,h4,h2⟩⟩
    rw [hf (QT (j+1)) _ (by rw [hn];exact l.nm1 j hj),l.dat j hj]
  · have hn : (fs.crash k t).2.sure.names = nput fs.sure.names (QT (cs.length + 1)) x := by
      rw [h8,hw]
      have:∃ m,k.toNat=m+1:=⟨k.toNat - 1,by omega⟩
      obtain ⟨m,e⟩:=this
      rw [e,List.take_of_length_le (by simp)]
      simp only [ZL,List.foldl_cons,List.foldl_nil]
      unfold UK
      rw [if_neg (by show ¬ (1:Int)=0;decide),if_pos rfl]
    have hng:∀ s,Zh (fs.crash k t).2.sure.names s=if QT (cs.length+1)=s then some x else Zh fs.sure.names s:=fun s=>by rw [hn,V8]
    refine ⟨_,.inr rfl,⟨⟨fun j hj=>?_,fun s hs=>?_,fun j hj=>?_,by simp;omega,h5.trans l.room,hfr⟩,h4,h2⟩⟩
    · rw [List.length_append] at hj
      have hj:j < cs.length+1:=hj
      rw [hng]
      by_cases h:j < cs.length
      · rw [if_neg fun e=>by have:=V9 (by omega) (by omega) e;omega,l.nm1 j h,List.getElem_append_left h]
      · have : j = cs.length := by omega
        subst this
        rw [if_pos rfl,List.getElem_append_right (Nat.le_refl _)];simp
    · rw [hng]
      have h1:=hs cs.length (by simp)
      rw [if_neg fun e=>h1 e.symm]
      exact l.nm2 s fun j hj=>hs j (by simp;omega)
    · rw [List.length_append] at hj
      have hj:j < cs.length+1:=hj
      by_cases h:j < cs.length
      · rw [List.getElem_append_left h]
        rw [hf (QT (j+1)) _ (by rw [hng,if_neg fun e=>by have:=V9 (by omega) (by omega) e;omega];exact l.nm1 j h),l.dat j h]
      · have : j = cs.length := by omega
        subst this
        rw [List.getElem_append_right (Nat.le_refl _)]
        simp only [Nat.sub_self,List.getElem_cons_zero]
        rw [hf (QT (cs.length+1)) x (by rw [hng,if_pos rfl]),hx]
end Go.Proofs.YtfgdelkdmdmfgaaDoor
namespace Go.Proofs.YtfgdelkdmdmfgaaDoor
open Go Go.Am
set_option linter.all false
set_option maxRecDepth 100000
theorem LgOn.begin {cs : Cs} {fs : Fs} {N c : Nat} (o : LgOn cs fs) (i : Inv fs N c) (hN : N + 72 ≤ Qe) (hc : c ≤ Qe) (few : cs.length + 1 < 99) :
    (((fs.create (QT (cs.length+1))).1=0∧(((fs.create (QT (cs.length+1))).2.syncNames.1=0∧LgOn (cs++[(fs.next,[])]) (fs.create (QT (cs.length+1))).2.syncNames.2∧(fs.create (QT (cs.length+1))).2.syncNames.2.fused=fs.fused) ∨
      ((fs.create (QT (cs.length+1))).2.syncNames.1=7∧Cr (fun d=>d=cs∨d=cs++[(fs.next,[])]) (fs.create (QT (cs.length+1))).2.syncNames.2∧fs.fused=true))) ∨
     ((fs.create (QT (cs.length+1))).1=7∧Cr (fun d=>d=cs) (fs.create (QT (cs.length+1))).2∧fs.fused=true)):=by
  have hm:Qe=140737488355328:=rfl
  have few0:=o.lg.few
  have ir:=i.create (by omega) hc (QT (cs.length+1))
  obtain ⟨hor,hs,hr,hf,hnx⟩:=create_two i (by omega) hc o.on (Y9 _ (by omega)) (o.no (n:=cs.length+1) (by omega) (by omega))
  generalize fs.create (QT (cs.length+1))=r1 at hor hs hr hf hnx ir ⊢
  have fr:QG fs.sure.files fs.next=[]:=o.lg.fresh _ (Int.le_refl _)
  have l1:Lg cs r1.2:=⟨by rw [hs];exact o.lg.nm1,by rw [hs];exact o.lg.nm2,by rw [hs];exact o.lg.dat,few0,hr.trans o.lg.room,fun y hy=>by rw [hs];exact o.lg.fresh y (by omega)⟩
  rcases hor with ⟨h1,hw,ho⟩ | ⟨h1,hw,ho,hfu⟩
  · refine .inl ⟨h1, ?_⟩
    rw [o.w,List.nil_append] at hw
    rw [syncNames_on ho]
    rcases Kv ir (by omega) VR with ⟨e1,e2,e3,e4,e5,e6,e7,e8⟩ | ⟨e1,e2,e3⟩
    · refine .inl ⟨e1, ⟨?_, ?_, e7.trans ho⟩, e6.trans hf⟩
      · have k3 : r1.2.wait.filter VR = [⟨1, QT (cs.length + 1), [], fs.next, []⟩] := by rw [hw]; rfl
        rw [k3] at e2
        have en:(r1.2.settle VR).2.sure.names=nput fs.sure.names (QT (cs.length+1)) fs.next:=by
          rw [e2,ZR,hs]
          simp only [ZL,List.foldl_cons,List.foldl_nil]
          unfold UK
          rw [if_neg (by show ¬ (1:Int)=0;decide),if_pos rfl]
        have ef:∀ y,QG (r1.2.settle VR).2.sure.files y=QG fs.sure.files y:=fun y=>by
          rw [e2,W4,hs]
          show _++((if (1:Int)=0∧fs.next=y then _ else [])++[])=_
          rw [if_neg (by intro h;exact absurd h.1 (by decide)),List.append_nil,List.append_nil]
        exact o.lg.add few fr (fun s=>by rw [en,V8]) (fun y=>.inl (ef y)) (e4.trans hr) fun y hy=>by rw [ef];exact o.lg.fresh y (by omega)
      · rw [e3,hw];rfl
    · refine .inr ⟨e1, ?_, by rw [← hf]; exact e3⟩
      have l2:Lg cs (r1.2.settle VR).2:=by rw [e2];exact ⟨l1.nm1,l1.nm2,l1.dat,l1.few,l1.room,l1.fresh⟩
      have i2:Inv (r1.2.settle VR).2 (N+72) (c+1):=by rw [e2];exact ir.off true
      exact l2.crashN i2 few (by rw [e2];show QG r1.2.sure.files fs.next=[];rw [hs];exact fr) (by rw [e2];exact hw)
  · exact .inr ⟨h1,l1.cr0 ir (by rw [hw];exact o.w),hfu⟩
theorem LgOn.put {cs : Cs} {x : Int} {d : List UInt8} {fs : Fs} {N c : Nat} {b : List UInt8} (o : LgOn (cs ++ [(x, d)]) fs) (i : Inv fs N c) (hN : N + 73 * b.length ≤ Qe) :
    ((fs.append (QT (cs.length+1)) b)=(8,fs)∧fs.space < Int.ofNat b.length) ∨
    ((fs.append (QT (cs.length+1)) b).1=0 ∧
      (((fs.append (QT (cs.length+1)) b).2.sync (QT (cs.length+1))).1=0∧LgOn (cs++[(x,d++b)]) ((fs.append (QT (cs.length+1)) b).2.sync (QT (cs.length+1))).2∧((fs.append (QT (cs.length+1)) b).2.sync (QT (cs.length+1))).2.fused=fs.fused ∨
       ((fs.append (QT (cs.length+1)) b).2.sync (QT (cs.length+1))).1=7∧Cr (fun e=>∃ p,p <+: b∧e=cs++[(x,d++p)]) ((fs.append (QT (cs.length+1)) b).2.sync (QT (cs.length+1))).2∧fs.fused=true)) ∨
    ((fs.append (QT (cs.length+1)) b).1=7∧Cr (fun e=>∃ p,p <+: b∧e=cs++[(x,d++p)]) (fs.append (QT (cs.length+1)) b).2∧fs.fused=true):=by
  have hm:Qe=140737488355328:=rfl
  have few:=o.lg.few
  rw [List.length_append] at few
  have few:cs.length+1 < 99:=few
  have n1:Zh fs.sure.names (QT (cs.length+1))=some x:=by
    have:=o.lg.nm1 cs.length (by simp)
    rw [List.getElem_append_right (Nat.le_refl _)] at this
    simpa using this
  have fl:fs.file (QT (cs.length+1))=(x,0):=XO o.on (Y9 _ (by omega)) (by rw [o.held];exact n1)
  by_cases sp:fs.space < Int.ofNat b.length
  · left
    refine ⟨?_,sp⟩
    unfold Fs.append
    rw [fl,if_neg (by simp),if_pos sp]
  right
  have sp:(b.length:Int)≤fs.space:=by
    have:¬ fs.space < (b.length:Int):=sp
    omega
  have ia:=i.append (QT (cs.length+1)) b hN
  obtain ⟨ws,w1,w2,w3,w4,w5⟩:=append_cases i (b:=b) fl sp hN
  generalize fs.append (QT (cs.length+1)) b=r1 at ia w2 w3 w5 ⊢
  rw [o.w,List.nil_append] at w3
  have l1:Lg (cs++[(x,d)]) r1.2:=⟨by rw [w2.sure];exact o.lg.nm1,by rw [w2.sure];exact o.lg.nm2,by rw [w2.sure];exact o.lg.dat,o.lg.few,w2.room.trans o.lg.room,by rw [w2.sure,w2.next];exact o.lg.fresh⟩
  have inj:∀ j (hj:j < cs.length),cs[j].1≠x:=fun j hj e=>by
    have h1:=o.lg.nm1 j (by simp;omega)
    rw [List.getElem_append_left hj,e] at h1
    have:=V9 (by omega) (by omega) (i.sure.inj _ _ _ h1 n1)
    omega
  have hmap:∀ p,((cs++[(x,d)]).map fun q=>if q.1=x then (q.1,q.2++p) else q)=cs++[(x,d++p)]:=fun p=>by
    rw [List.map_append]
    congr 1
    · have : ∀ q ∈ cs, (if q.1 = x then (q.1, q.2 ++ p) else q) = q := fun q hq => by
        obtain ⟨j,hj,rfl⟩:=List.getElem_of_mem hq
        rw [if_neg (inj j hj)]
      rw [List.map_congr_left this,List.map_id']
    · show [if x = x then (x, d ++ p) else (x, d)] = _
      rw [if_pos rfl]
  have crW:∀ {fs2:Fs} {N2 c2:Nat},Lg (cs++[(x,d)]) fs2→Inv fs2 N2 c2→W x fs2.wait→cat x fs2.wait <+: b→Cr (fun e=>∃ p,p <+: b∧e=cs++[(x,d++p)]) fs2:=fun l2 i2 hw2 hc2 k t hk ht=>by
    obtain ⟨h1,h2,p,hp,h3⟩:=l2.crashW i2 hw2 hk ht
    rw [hmap] at h3
    exact ⟨h1,h2,_,⟨p,hp.trans hc2,rfl⟩,h3⟩
  rcases w5 with ⟨b1,b2,b3⟩ | ⟨b1,b2,b3⟩
  · refine .inl ⟨b1, ?_⟩
    have fl1:r1.2.file (QT (cs.length+1))=(x,0):=by
      refine XO (b3.trans o.on) (Y9 _ (by omega)) ?_
      unfold Fs.held
      rw [ZR,w2.sure,w3,w1.names];exact n1
    rw [sync_cases ia (by omega) fl1]
    have hw1:W x r1.2.wait:=by rw [w3];exact w1
    rcases Kv ia (by omega) (WX x) with ⟨e1,e2,e3,e4,e5,e6,e7,e8⟩ | ⟨e1,e2,e3⟩
    · rw [hw1.filter.1] at e2
      rw [hw1.filter.2] at e3
      have en:(r1.2.settle (WX x)).2.sure.names=fs.sure.names:=by rw [e2,ZR,hw1.names,w2.sure]
      have ef:∀ y,QG (r1.2.settle (WX x)).2.sure.files y=QG fs.sure.files y++cat y ws:=fun y=>by rw [e2,W4,w2.sure,w3]
      have hc0:∀ y,y≠x→cat y ws=[]:=by
        intro y hy
        have h0:∀ l:List Stp,W x l→cat y l=[]:=by
          intro l
          induction l with
          | nil=>intro _;rfl
          | cons s l ih =>
            intro h
            show (if s.kind=0∧s.file=y then s.bytes else [])++cat y l=[]
            rw [if_neg fun e=>hy (e.2.symm.trans (h s List.mem_cons_self).2),ih fun q hq=>h q (List.mem_cons_of_mem _ hq)];rfl
        exact h0 ws w1
      refine .inl ⟨e1,⟨⟨fun j hj=>?_,fun s hs=>?_,fun j hj=>?_,by simpa using o.lg.few,e4.trans (w2.room.trans o.lg.room),fun y hy=>?_⟩,e3,e7.trans (b3.trans o.on)⟩,e6.trans w2.fused⟩
      · rw [en]
        rw [List.length_append] at hj
        have hj:j < cs.length+1:=hj
        by_cases h:j < cs.length
        · have := o.lg.nm1 j (by simp; omega)
          rw [List.getElem_append_left h] at this ⊢
          exact this
        · have : j = cs.length := by omega
          subst this
          rw [List.getElem_append_right (Nat.le_refl _)]
          simp only [Nat.sub_self,List.getElem_cons_zero]
          exact n1
      · rw [en]
        exact o.lg.nm2 s fun j hj=>hs j (by simpa using hj)
      · rw [List.length_append] at hj
        have hj:j < cs.length+1:=hj
        by_cases h:j < cs.length
        · have := o.lg.dat j (by simp; omega)
          rw [List.getElem_append_left h] at this ⊢
          rw [ef,hc0 _ (inj j h),List.append_nil,this]
        · have : j = cs.length := by omega
          subst this
          have h2:=o.lg.dat cs.length (by simp)
          rw [List.getElem_append_right (Nat.le_refl _)] at h2 ⊢
          simp only [Nat.sub_self,List.getElem_cons_zero] at h2 ⊢
          rw [ef,h2,b2]
      · rw [e5, w2.next] at hy
        rw [ef,o.lg.fresh y hy,hc0 y (fun e=>by
          have:=(i.sure.lt _ _ n1).2
          omega)];rfl
    · refine .inr ⟨e1, ?_, by rw [← w2.fused]; exact e3⟩
      have i2:Inv (r1.2.settle (WX x)).2 (N+73 * b.length) c:=by rw [e2];exact ia.off true
      have l2:Lg (cs++[(x,d)]) (r1.2.settle (WX x)).2:=by rw [e2];exact ⟨l1.nm1,l1.nm2,l1.dat,l1.few,l1.room,l1.fresh⟩
      have hw2:W x (r1.2.settle (WX x)).2.wait:=by rw [e2];exact hw1
      exact crW l2 i2 hw2 (by rw [e2];show cat x r1.2.wait <+: b;rw [w3];exact w4)
  · exact .inr ⟨b1,crW l1 ia (by rw [w3];exact w1) (by rw [w3];exact w4),b3⟩
end Go.Proofs.YtfgdelkdmdmfgaaDoor
