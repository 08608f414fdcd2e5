import Derived.Test.YtfgdelkdmdmfgaaDoorVxQ
namespace Go.Am
open Go
set_option linter.all false
def cat (x:Int):List Stp→List UInt8
  | []=>[]
  | s::l=>(if s.kind=0∧s.file=x then s.bytes else [])++cat x l
theorem GP (x:Int):∀ (a b:List Stp),cat x (a++b)=cat x a++cat x b
  | [],b=>rfl
  | s :: a, b => by
    show _++cat x (a++b)=(_++cat x a)++cat x b
    rw [GP x a b,List.append_assoc]
theorem fbytes_step (t:Tre) (s:Stp) (x:Int):QG (t.step s).files x=QG t.files x++(if s.kind=0∧s.file=x then s.bytes else []):=by
  unfold Tre.step
  by_cases h0:s.kind=0
  · rw [if_pos h0]
    show QG (XN t.files s.file (QG t.files s.file++s.bytes)) x=_
    rw [Je]
    by_cases h1:s.file=x
    · rw [if_pos h1,if_pos ⟨h0,h1⟩,h1]
    · rw [if_neg h1,if_neg fun c=>h1 c.2,List.append_nil]
  · rw [if_neg h0, if_neg (show ¬ (s.kind = 0 ∧ s.file = x) from fun c => h0 c.1), List.append_nil]
    repeat' split
    all_goals rfl
theorem W4 (x:Int):∀ (l:List Stp) (t:Tre),QG (t.steps l).files x=QG t.files x++cat x l
  | [],t=>(List.append_nil _).symm
  | s :: l, t => by
    show QG ((t.step s).steps l).files x=QG t.files x++(_++cat x l)
    rw [W4 x l,fbytes_step,List.append_assoc]
theorem Ji (fs : Fs) (k t : Nat) (x : Int) : cat x (fs.crashed k t) <+: cat x fs.wait := by
  by_cases hk:k < fs.wait.length
  · have e : fs.wait = fs.wait.take k ++ (fs.wait[k] :: fs.wait.drop (k + 1)) := by
      rw [← List.drop_eq_getElem_cons hk,List.take_append_drop]
    have e2:cat x fs.wait=cat x (fs.wait.take k)++((if fs.wait[k].kind=0∧fs.wait[k].file=x then fs.wait[k].bytes else [])++cat x (fs.wait.drop (k+1))):=by
      conv=>lhs;rw [e,GP]
      rfl
    unfold Fs.crashed
    rw [e2,GP,List.getElem?_eq_getElem hk]
    refine (List.prefix_append_right_inj _).2 ?_
    dsimp only
    by_cases h0:fs.wait[k].kind=0
    · rw [if_pos h0]
      show (if fs.wait[k].kind=0∧fs.wait[k].file=x then fs.wait[k].bytes.take _ else [])++[] <+: _
      rw [List.append_nil]
      by_cases h1:fs.wait[k].file=x
      · rw [if_pos ⟨h0, h1⟩, if_pos ⟨h0, h1⟩]
        exact (List.take_prefix _ _).trans (List.prefix_append _ _)
      · rw [if_neg fun c=>h1 c.2];exact List.nil_prefix
    · rw [if_neg h0];exact List.nil_prefix
  · unfold Fs.crashed
    rw [List.getElem?_eq_none (by omega),List.take_of_length_le (by omega),GP]
    show cat x fs.wait++[] <+: _
    rw [List.append_nil];exact List.prefix_rfl
structure Mild (fs fs':Fs):Prop where
  sure:fs'.sure=fs.sure
  room:fs'.room=fs.room
  next:fs'.next=fs.next
  fused:fs'.fused=fs.fused
theorem Mild.refl (fs:Fs):Mild fs fs:=⟨rfl,rfl,rfl,rfl⟩
theorem Mild.trans {a b c:Fs} (h:Mild a b) (h':Mild b c):Mild a c:=⟨h'.sure.trans h.sure,h'.room.trans h.room,h'.next.trans h.next,h'.fused.trans h.fused⟩
theorem Dk {fs:Fs} {N c:Nat} (i:Inv fs N c) (hN:N≤Qe) :
    (fs.raw.1=0∧Mild fs fs.raw.2∧fs.raw.2.wait=fs.wait∧fs.raw.2.off=fs.off∧fs.raw.2.steps=fs.steps+1∧(fs.fused=true→0 < fs.left∧fs.raw.2.left=fs.left - 1)) ∨
    (fs.raw.1=7∧fs.raw.2={ fs with off:=true }∧fs.fused=true∧fs.left=0):=by
  rcases i.raw_or hN with ⟨e,h1,h2⟩ | ⟨e,h1⟩
  · exact .inr ⟨by rw [e],by rw [e],h1,h2⟩
  · refine .inl ⟨by rw [e], ?_, by rw [e], by rw [e], by rw [e], fun h => ⟨h1 h, by rw [e]; show (if fs.fused then fs.left - 1 else fs.left) = _; rw [h]; rfl⟩⟩
    rw [e];exact ⟨rfl,rfl,rfl,rfl⟩
theorem Nl {fs:Fs} {N c:Nat} (i:Inv fs N c) (hN:N≤Qe) (s:Stp) :
    ((fs.pend s).1=0∧Mild fs (fs.pend s).2∧(fs.pend s).2.wait=fs.wait++[s]∧(fs.pend s).2.off=fs.off) ∨
    ((fs.pend s).1=7∧Mild fs (fs.pend s).2∧(fs.pend s).2.wait=fs.wait∧(fs.pend s).2.off=true∧fs.fused=true):=by
  unfold Fs.pend
  rcases Dk i hN with ⟨h,m,_,h2,h3,h4⟩ | ⟨h,e,h1,h2⟩
  · rw [if_pos h]
    exact .inl ⟨rfl,⟨m.sure,m.room,m.next,m.fused⟩,rfl,h2⟩
  · rw [if_neg (by rw [h]; decide)]
    refine .inr ⟨h,?_,?_,?_,h1⟩ <;> rw [e]
    exact ⟨rfl,rfl,rfl,rfl⟩
theorem Jk {fs:Fs} (h:fs.off=false) {l:List (List UInt8)} (hl:l.all named=true):fs.asked l=0:=by
  unfold Fs.asked
  rw [h,if_neg (by simp),if_pos hl]
theorem asked_off {fs:Fs} (h:fs.off=true) {l:List (List UInt8)}:fs.asked l=7:=by
  unfold Fs.asked
  rw [h,if_pos rfl]
theorem XO {fs:Fs} (h:fs.off=false) {s:List UInt8} (hn:named s=true) {x:Int} (hx:Zh fs.held.names s=some x):fs.file s=(x,0):=by
  unfold Fs.file
  rw [Jk h (by simp [hn]),if_neg (by simp),hx]
theorem file_none {fs:Fs} (h:fs.off=false) {s:List UInt8} (hn:named s=true) (hx:Zh fs.held.names s=none):fs.file s=(0,4):=by
  unfold Fs.file
  rw [Jk h (by simp [hn]),if_neg (by simp),hx]
def W (x:Int) (l:List Stp):Prop:=∀ s∈l,s.kind=0∧s.file=x
theorem W.names {x:Int} {l:List Stp} (h:W x l) (ns:List (List UInt8 × Int)):ZL ns l=ns:=U7 fun s hs=>(h s hs).1
theorem Ng {n : Int} {b : List UInt8} : ∀ {m j : Nat} {fs : Fs} {N c : Nat}, Inv fs N c → N + 73 * (b.length - j) ≤ Qe → b.length ≤ j + m →
    ∃ ws, W n ws ∧ Mild fs (fs.puts n b m j).2 ∧ (fs.puts n b m j).2.wait = fs.wait ++ ws ∧ cat n ws <+: b.drop j ∧
      (((fs.puts n b m j).1=0∧cat n ws=b.drop j∧(fs.puts n b m j).2.off=fs.off)∨((fs.puts n b m j).1=7∧(fs.puts n b m j).2.off=true∧fs.fused=true))
  | 0, j, fs, N, c, i, h, hm => by
    have:b.drop j=[]:=List.drop_eq_nil_of_le (by omega)
    exact ⟨[],fun _ q=>(by cases q),Mild.refl _,(List.append_nil _).symm,List.nil_prefix,.inl ⟨rfl,this.symm,rfl⟩⟩
  | m + 1, j, fs, N, c, i, h, hm => by
    unfold Fs.puts
    by_cases hj:j < b.length
    · rw [if_pos hj]
      have hl:((b.drop j).take 64).length=min 64 (b.length - j):=by simp
      have ip:=i.pend (s:=⟨0,[],[],n,(b.drop j).take 64⟩) (by omega) (Nat.le_refl _) (i.held) (fun _ e=>by
        have e:(b.drop j).take 64=[]:=e
        have:=congrArg List.length e;rw [hl] at this;simp at this;omega)
      have hl:(({ kind:=0,name:=[],to:=[],file:=n,bytes:=(b.drop j).take 64 }:Stp).bytes).length=min 64 (b.length - j):=hl
      rw [hl] at ip
      have ew:∀ l,cat n (⟨0,[],[],n,(b.drop j).take 64⟩::l)=(b.drop j).take 64++cat n l:=fun l=>by
        show (if (0:Int)=0∧n=n then _ else _)++_=_
        rw [if_pos ⟨rfl,rfl⟩]
      have ed:b.drop j=(b.drop j).take 64++b.drop (j+64):=by
        rw [← List.drop_drop,List.take_append_drop]
      rcases Nl i (by omega) ⟨0,[],[],n,(b.drop j).take 64⟩ with ⟨h1,h2,h3,h4⟩ | ⟨h1,h2,h3,h4,h5⟩
      · rw [if_pos h1]
        obtain ⟨ws,w1,w2,w3,w4,w5⟩:=Ng (n:=n) (b:=b) (m:=m) (j:=j+64) ip (by omega) (by omega)
        refine ⟨⟨0,[],[],n,(b.drop j).take 64⟩::ws,?_,h2.trans w2,by rw [w3,h3,List.append_assoc];rfl,?_,?_⟩
        · intro s hs
          rcases List.mem_cons.1 hs with rfl | hs
          · exact ⟨rfl,rfl⟩
          · exact w1 s hs
        · rw [ew, ed]; conv => lhs; rw [← ed]
          exact (List.prefix_append_right_inj _).2 w4
        · rcases w5 with ⟨a, b', c'⟩ | ⟨a, b', c'⟩
          · exact .inl ⟨a,by rw [ew,b',← ed],by rw [c',h4]⟩
          · exact .inr ⟨a,b',by rw [h2.fused] at c';exact c'⟩
      · rw [if_neg (by rw [h1]; decide)]
        exact ⟨[],fun _ q=>(by cases q),h2,by rw [h3];simp,List.nil_prefix,.inr ⟨h1,h4,h5⟩⟩
    · rw [if_neg hj]
      have:b.drop j=[]:=List.drop_eq_nil_of_le (by omega)
      exact ⟨[],fun _ q=>(by cases q),Mild.refl _,(List.append_nil _).symm,List.nil_prefix,.inl ⟨rfl,this.symm,rfl⟩⟩
def used (fl:List (Int × List UInt8)):List (List UInt8 × Int)→Nat
  | []=>0
  | p::l=>(QG fl p.2).length+used fl l
theorem Gf {fl:List (Int × List UInt8)}:∀ {l:List (List UInt8 × Int)} {n:Int},-4611686018427387904≤n - (used fl l:Int)→n < 4611686018427387904→VX fl l n=n - (used fl l:Int)
  | [],n,_,_=>by show n=n - 0;omega
  | p :: l, n, h1, h2 => by
    have e:((used fl (p::l):Nat):Int)=((QG fl p.2).length:Int)+(used fl l:Int):=by
      show (((QG fl p.2).length+used fl l:Nat):Int)=_
      omega
    rw [e] at h1 ⊢
    show VX fl l (Qd .i64 (Int.sub n (Int.ofNat (QG fl p.2).length)))=_
    have e2:Qd .i64 (Int.sub n (Int.ofNat (QG fl p.2).length))=n - ((QG fl p.2).length:Int):=WC (by show _≤n - _;simp only [Int.ofNat_eq_natCast];omega) (by show n - _ < _;simp only [Int.ofNat_eq_natCast];omega)
    rw [e2,Gf (by omega) (by omega)]
    omega
theorem QcI {fl:List (Int × List UInt8)} {N:Nat} (h:∀ x,(QG fl x).length≤N):∀ l:List (List UInt8 × Int),used fl l≤l.length * N
  | []=>Nat.zero_le _
  | p :: l => by
    have:=QcI h l
    have:=h p.2
    show _+used fl l≤(l.length+1) * N
    rw [Nat.add_mul];omega
theorem Inv.used {fs:Fs} {N c:Nat} (i:Inv fs N c):used fs.held.files fs.held.names≤c * N:=by
  obtain ⟨n,h1,h2⟩:=i.fit
  refine Nat.le_trans (QcI (N:=N) (fun x=>Nat.le_trans ((h1.steps (t:=fs.sure) (l:=fs.wait)).get x) h2) _) (Nat.mul_le_mul_right _ i.held.len)
theorem space_is {fs:Fs} {N c:Nat} (i:Inv fs N c) (h:c * N≤4611686018427387904) (hr:0≤fs.room∧fs.room≤1073741824) (ho:fs.off=false):fs.space=fs.room - (used fs.held.files fs.held.names:Int):=by
  have:=i.used
  unfold Fs.space
  rw [Jk ho rfl,if_neg (by simp)]
  exact Gf (by omega) (by omega)
theorem append_cases {fs:Fs} {N c:Nat} (i:Inv fs N c) {s b:List UInt8} {x:Int} (hf:fs.file s=(x,0)) (hs:(b.length:Int)≤fs.space) (h:N+73 * b.length≤Qe) :
    ∃ ws, W x ws ∧ Mild fs (fs.append s b).2 ∧ (fs.append s b).2.wait = fs.wait ++ ws ∧ cat x ws <+: b ∧
      (((fs.append s b).1=0∧cat x ws=b∧(fs.append s b).2.off=fs.off)∨((fs.append s b).1=7∧(fs.append s b).2.off=true∧fs.fused=true)):=by
  have e:fs.append s b=fs.puts x b b.length 0:=by
    unfold Fs.append
    rw [hf,if_neg (by simp),if_neg (by simp only [Int.ofNat_eq_natCast];omega)]
  rw [e]
  exact Ng i h (by omega)
theorem QbT {fs:Fs} {N c:Nat} (i:Inv fs N c) {k t:Int} (hk:0≤k) (ht:0≤t):(fs.crash k t).1=0∧(fs.crash k t).2.off=false∧(fs.crash k t).2.fused=false∧(fs.crash k t).2.wait=[]∧(fs.crash k t).2.room=fs.room∧(fs.crash k t).2.next=fs.next∧(fs.crash k t).2.steps=fs.steps ∧
    (fs.crash k t).2.sure.names=ZL fs.sure.names (fs.wait.take k.toNat)∧∀ s x,Zh (ZL fs.sure.names (fs.wait.take k.toNat)) s=some x→QG (fs.crash k t).2.sure.files x=QG fs.sure.files x++cat x (fs.crashed k.toNat t.toNat):=by
  unfold Fs.crash
  rw [if_neg (by omega)]
  refine ⟨rfl,rfl,rfl,rfl,rfl,rfl,rfl,?_,fun s x h=>?_⟩
  · show (fs.sure.steps (fs.crashed k.toNat t.toNat)).names = _
    rw [ZR,VS]
  · show QG (U9 (fs.sure.steps (fs.crashed k.toNat t.toNat)).files (fs.sure.steps (fs.crashed k.toNat t.toNat)).names []) x = _
    have en:(fs.sure.steps (fs.crashed k.toNat t.toNat)).names=ZL fs.sure.names (fs.wait.take k.toNat):=by rw [ZR,VS]
    rw [en,fbytes_keepF (i.nm k.toNat) h,W4]
theorem read_is {fs:Fs} (ho:fs.off=false) {s:List UInt8} (hn:named s=true) {x:Int} (hx:Zh fs.held.names s=some x):fs.read s=(QG fs.held.files x,0):=by
  unfold Fs.read
  rw [XO ho hn hx,if_neg (by simp)]
theorem held_nil {fs:Fs} (h:fs.wait=[]):fs.held=fs.sure:=by unfold Fs.held;rw [h];rfl
theorem Kv {fs:Fs} {N c:Nat} (i:Inv fs N c) (hN:N≤Qe) (p:Stp→Bool) :
    ((fs.settle p).1=0∧(fs.settle p).2.sure=fs.sure.steps (fs.wait.filter p)∧(fs.settle p).2.wait=(fs.wait.filter fun s=>!p s)∧(fs.settle p).2.room=fs.room∧(fs.settle p).2.next=fs.next∧(fs.settle p).2.fused=fs.fused∧(fs.settle p).2.off=fs.off∧(fs.settle p).2.steps=fs.steps+1) ∨
    ((fs.settle p).1=7∧(fs.settle p).2={ fs with off:=true }∧fs.fused=true):=by
  unfold Fs.settle
  rcases Dk i hN with ⟨h,m,h1,h2,h3,h4⟩ | ⟨h,e,h1,h2⟩
  · rw [if_pos h]
    exact .inl ⟨rfl,rfl,rfl,m.room,m.next,m.fused,h2,h3⟩
  · rw [if_neg (by rw [h]; decide)]
    exact .inr ⟨h,e,h1⟩
end Go.Am
