import Derived.Test.YtfgdelkdmdmfgaaDoorAmS2
import Derived.Test.YtfgdelkdmdmfgaaDoorVxC
namespace Go.Proofs.YtfgdelkdmdmfgaaDoor
open Go Go.Am
set_option linter.all false
set_option maxRecDepth 100000
theorem vt:VT ty:=⟨by kernel_rfl,by kernel_rfl,by kernel_rfl,by kernel_rfl,by kernel_rfl⟩
theorem p42 {h:H} {v:AV} {b:List UInt8} {k:AV→H→Prop} (s:SlB h v b) (hb:h.base≤h.next) (hl:b.length≤Qe) (hk:∀ v' h',Row false 5 h.next h' v' b→Only noL h h'→k v' h'):s30 v h k:=by
  show s30G J0 v h k
  unfold s30G
  refine s.nilB (fun e1 e2=>?_) ?_
  · subst e1 e2
    exact hk _ _ (Row.nil _ _ _ _) (Only.refl _ _)
  · rw [Qr]
    rw [show Wd true 5 []=some (.bytes 5 0 false (Str.of [])) from rfl,Qy,QW]
    refine YZ (Row.push (g:=false) (n:=h.next) (l:=[]) false true (Nat.le_refl _)) hb (by rw [U4];omega) ?_ (by simpa using hl) fun v' h' r lo=>?_
    · refine fun f => SlB.src (s.only (L := noL) (Low.only ?_)) 5 f
      exact Low.push _ _ _ (Nat.le_refl _)
    · rw [List.nil_append] at r
      exact hk _ _ r (Low.only ((Low.push _ _ _ (Nat.le_refl _)).trans lo))
theorem p43 {h:H} {mf mn n:Nat} {t:Tre} {s:Stp} {v:AV} {k:H→Prop} (q:TreeAt h mf mn t) (hv:SlB h v s.bytes) (hbd:Bnd n t) (hl:n+s.bytes.length≤Qe)
    (hk:∀ h',TreeAt h' mf mn (t.step s)→Only (Two mf mn) h h'→k h'):s51 (.agg [.map mf,.map mn]) (.agg (s.cells v)) h k:=by
  show s51G J0 s30 _ _ h k
  unfold s51G
  rw [ZZ]
  refine Zg fun h2' o2 n2 g2=>?_
  rw [ZZ]
  refine Zg fun h5 o5 n5 g5=>?_
  have o25:Only noL h h5:=o2.trans o5 fun _ _ c=>c
  have q2:=q.only o2 id id
  have g25:h5.get h.next=.cells false 53 [.map mf,.map mn]:=o5.at g2 rfl id
  have q5:=q.only o25 id id
  have v5:=hv.only o25
  have fin:∀ {h6:H} {L:Nat→Prop},TreeAt h6 mf mn (t.step s)→Only L h5 h6→(∀ i,L i→Two mf mn i)→k h6:=fun q6 o6 hi=>hk _ q6 (((o25.imp fun _ _ c=>c.elim).trans o6 fun i _ c=>hi i c))
  rw [Q9 g5 rfl,Qg]
  refine QP (fun h0=>?_) fun h0=>?_
  · have h0 : s.kind = 0 := Zp.1 h0
    rw [Q1 g25 rfl,Q9 g5 rfl,Q1 g25 rfl,Q9 g5 rfl]
    obtain ⟨w,e1,hw⟩:=Qdi vt q5 s.file
    rw [e1,Qy,Q1 g5 rfl]
    refine p42 hw q5.wf (by have:=hbd.get s.file;omega) fun v' h15 r o15=>?_
    have g5':=o15.at g5 rfl id
    have g25':=o15.at g25 rfl id
    have q15:=q5.only o15 id id
    refine Qp (Zy (Z1 g5') v5.self) (Qp (Zy (Z1 g5') (U0 _ _)) (Qp (Zy (Z1 g25') (G6 _)) ?_))
    refine YZ r (by rw [o15.base];exact q5.wf) o15.next (fun f=>(v5.only o15).src 5 f) (by have:=hbd.get s.file;omega) fun v'' h18 r' lo=>?_
    have o18:Only noL h5 h18:=o15.low lo
    have g5'':=o18.at g5 rfl id
    have g25'':=o18.at g25 rfl id
    have q18:=q5.only o18 id id
    refine Qp (Zy (Z1 g5'') (U0 _ _)) (Qp (Zy (Z1 g25'') (G6 _)) ?_)
    obtain ⟨es,e2,a2⟩:=putF vt q18 s.file (SlB.ofRow r')
    rw [e2,Qy]
    obtain ⟨es0,e3,_⟩:=q18.files
    refine U3 e3 rfl (by intros;intro c;cases c) q18.bf fun h6 o6 n6 g6=>?_
    refine fin ?_ ((o18.imp fun _ _ c=>c.elim).trans o6 fun i _ c=>c) fun i c=>.inl c
    unfold Tre.step
    rw [if_pos h0]
    exact q18.putF o6 g6 a2
  have k0:s.kind≠0:=Q4.1 h0
  rw [Qg]
  refine QP (fun h1=>?_) fun h1=>?_
  · have h1 : s.kind = 1 := Zp.1 h1
    rw [Q1 g25 rfl,YP g5 rfl,Q9 g5 rfl,putN vt q5,Qy]
    refine U3 q5.names rfl (by intros;intro c;cases c) q5.bn fun h6 o6 n6 g6=>?_
    refine fin ?_ o6 fun i c=>.inr c
    unfold Tre.step
    rw [if_neg k0,if_pos h1]
    exact q5.putN o6 g6
  have k1:s.kind≠1:=Q4.1 h1
  rw [Qg]
  refine QP (fun h2=>?_) fun h2=>?_
  · have h2 : s.kind = 2 := Zp.1 h2
    rw [YP g5 rfl,YP g5 rfl,Qg,GQ]
    refine QP (fun h3=>?_) fun h3=>?_
    · have h3 : s.name ≠ s.to := by rw [Am.not_true] at h3; simpa using h3
      rw [Q1 g25 rfl,YP g5 rfl,Q1 g25 rfl,YP g5 rfl,lookN vt q5,Qy,Qa,putN vt q5,Qy]
      refine U3 q5.names rfl (by intros;intro c;cases c) q5.bn fun h6 o6 n6 g6=>?_
      have q6:=q5.putN o6 g6
      have l1:=H.lt_of_live (h:=h5) (id:=h2'.next) (by rw [g5];rfl)
      have g5':=o6.at g5 rfl fun e=>by have:=q2.ln;omega
      have g25':=o6.at g25 rfl fun e=>by have:=q.ln;omega
      rw [Q1 g25' rfl,YP g5' rfl,delNm vt q6]
      show Yy _ _ _ _
      refine U3 q6.names rfl (by intros;intro c;cases c) q6.bn fun h7 o7 n7 g7=>?_
      refine fin ?_ (o6.trans o7 fun _ _ c=>c) fun i c=>.inr c
      unfold Tre.step
      rw [if_neg k0,if_neg k1,if_pos h2,if_neg h3]
      exact q6.putN o7 g7
    · have h3 : s.name = s.to := by rw [ZT] at h3; simpa using h3
      refine fin ?_ (Only.refl noL h5) fun i c=>c.elim
      unfold Tre.step
      rw [if_neg k0,if_neg k1,if_pos h2,if_pos h3]
      exact q5
  have k2:s.kind≠2:=Q4.1 h2
  rw [Qg]
  refine QP (fun h3=>?_) fun h3=>?_
  · have h3 : s.kind = 3 := Zp.1 h3
    rw [Q1 g25 rfl,YP g5 rfl,delNm vt q5]
    show Yy _ _ _ _
    refine U3 q5.names rfl (by intros;intro c;cases c) q5.bn fun h6 o6 n6 g6=>?_
    refine fin ?_ o6 fun i c=>.inr c
    unfold Tre.step
    rw [if_neg k0,if_neg k1,if_neg k2,if_pos h3]
    exact q5.putN o6 g6
  · have k3 : s.kind ≠ 3 := Q4.1 h3
    refine fin ?_ (Only.refl noL h5) fun i c=>c.elim
    unfold Tre.step
    rw [if_neg k0,if_neg k1,if_neg k2,if_neg k3]
    exact q5
end Go.Proofs.YtfgdelkdmdmfgaaDoor
namespace Go.Am
open Go
set_option linter.all false
structure Fs where
  sure:Tre
  wait:List Stp
  room:Int
  next:Int
  off:Bool
  fused:Bool
  left:Int
  steps:Int
structure FsG where
  id:Nat
  mf:Nat
  mn:Nat
  wr:Option Nat
def Fs.cells (fs:Fs) (g:FsG) (w:AV):List AV:=[.map g.mf,.map g.mn,w,.int .i64 fs.room,.int .i64 fs.next,.bool fs.off,.bool fs.fused,.int .i64 fs.left,.int .i64 fs.steps,.bool true]
structure FsAt (h:H) (g:FsG) (fs:Fs):Prop where
  bs:h.base≤g.id
  obj:∃ w,h.get g.id=.cells false 56 (fs.cells g w)∧WaitAt h g.wr w fs.wait
  tree:TreeAt h g.mf g.mn fs.sure
def Own (g:FsG) (i:Nat):Prop:=i=g.id∨i=g.mf∨i=g.mn∨g.wr=some i
theorem FsAt.only {L:Nat→Prop} {h h':H} {g:FsG} {fs:Fs} (f:FsAt h g fs) (o:Only L h h') (hn:∀ i,Own g i→¬ L i):FsAt h' g fs:=by
  obtain ⟨w,e1,e2⟩:=f.obj
  exact ⟨by rw [o.base];exact f.bs,⟨w,o.at e1 rfl (hn _ (.inl rfl)),e2.only o fun i e=>hn i (.inr (.inr (.inr e)))⟩,f.tree.only o (hn _ (.inr (.inl rfl))) (hn _ (.inr (.inr (.inl rfl))))⟩
theorem FsAt.wf {h:H} {g:FsG} {fs:Fs} (f:FsAt h g fs):h.base≤h.next:=f.tree.wf
def Fs.Fits (fs:Fs) (N:Nat):Prop:=∃ n,Bnd n fs.sure∧n+Wp fs.wait≤N
theorem Fs.Fits.mono {fs:Fs} {N M:Nat} (f:fs.Fits N) (h:N≤M):fs.Fits M:=by
  obtain ⟨n,h1,h2⟩:=f;exact ⟨n,h1,by omega⟩
def Fs.held (fs:Fs):Tre:=fs.sure.steps fs.wait
theorem N9 {l:List Stp} {i:Nat} (h:i < l.length):Wp (l.take i)+(l[i].bytes.length+72)≤Wp l:=by
  have e:Wp l=Wp (l.take i)+Wp (l.drop i):=by rw [← Ga,List.take_append_drop]
  rw [e,List.drop_eq_getElem_cons h,Yr];omega
theorem G0 (t:Tre) (l:List Stp) (s:Stp):t.steps (l++[s])=(t.steps l).step s:=by simp [Tre.steps]
theorem KP {i:Nat} (h:i < 9223372036854775807):Qd .i64 (Int.add (Int.ofNat i) (Int.ofNat 1))=Int.ofNat (i+1):=by
  show Qd .i64 (Int.ofNat (i+1))=_
  exact Zi (by show i+1 < 9223372036854775808;omega)
theorem ZI {i n:Nat}:ltI (Int.ofNat i) (Int.ofNat n)=true ↔ i < n:=by rw [WK];exact Int.ofNat_lt
theorem Vl {i n:Nat}:ltI (Int.ofNat i) (Int.ofNat n)=false ↔ n≤i:=by rw [Ys];exact Int.ofNat_le
end Go.Am
namespace Go.Proofs.YtfgdelkdmdmfgaaDoor
open Go Go.Am
set_option linter.all false
set_option maxRecDepth 100000
theorem assert54 (v:AV):Wl ty 50 false (.iface 50 v)=some v:=by
  unfold Wl
  rw [show ((ty 50).kd.known && !(ty 50).kd.isIface)=true from by kernel_rfl]
theorem assert55 (v:AV):Wl ty 51 false (.iface 51 v)=some v:=by
  unfold Wl
  rw [show ((ty 51).kd.known && !(ty 51).kd.isIface)=true from by kernel_rfl]
theorem QbV {h:H} {m t:Nat} {es:List (AV × AV)} (g:h.get m=.smap es) (K:AV→H→Prop):XT [.iface t (.map m)] h K=Qz (.smap es) h fun n h'=>K (.iface t (.map n)) h':=by
  unfold XT
  dsimp only
  rw [g];rfl
theorem p47 {h:H} {m:Nat} {es:List (AV × AV)} {k:AV→H→Prop} (g:h.get m=.smap es) (hk:∀ h',Only noL h h'→h'.next=h.next+1→h'.get h.next=.smap es→k (.map h.next) h'):s49 (.map m) h k:=by
  show s49G J0 g66 (.map m) h k
  unfold s49G nilB
  rw [show Nat.beq (ZQ (.map m)) 4=false from rfl,Qr,show Nat.beq (ZQ (.map m)) (Nat.succ 4)=true from rfl,Uf]
  unfold g66
  dsimp only
  rw [Qr]
  rw [QbV g]
  refine Zg fun h' o n g'=>?_
  rw [assert54,Qy]
  exact hk h' o n g'
theorem p48 {h:H} {m:Nat} {es:List (AV × AV)} {k:AV→H→Prop} (g:h.get m=.smap es) (hk:∀ h',Only noL h h'→h'.next=h.next+1→h'.get h.next=.smap es→k (.map h.next) h'):s50 (.map m) h k:=by
  show s50G J0 g66 (.map m) h k
  unfold s50G nilB
  rw [show Nat.beq (ZQ (.map m)) 4=false from rfl,Qr,show Nat.beq (ZQ (.map m)) (Nat.succ 4)=true from rfl,Uf]
  unfold g66
  dsimp only
  rw [Qr]
  rw [QbV g]
  refine Zg fun h' o n g'=>?_
  rw [assert55,Qy]
  exact hk h' o n g'
structure R35 (h0:H) (fs:Fs) (w:AV) (a b mf mn:Nat) (m:Nat) (v:AV × AV × AV × AV × AV × Unit) (d:List Dfr) (h:H) (i:Nat):Prop where
  m:m=fs.wait.length - i
  le:i≤fs.wait.length
  v:v=(.ptr a 0,.ptr b 0,w,.int .i64 (Int.ofNat fs.wait.length),.int .i64 (Int.ofNat i),())
  d:d=[]
  o:Only noL h0 h
  ga:h.get a=.cells false 53 [.nilm,.nilm]
  gb:h.get b=.cells false 53 [.map mf,.map mn]
  t:TreeAt h mf mn (fs.sure.steps (fs.wait.take i))
theorem p35 {h : H} {g : FsG} {fs : Fs} {k : AV → H → Prop} (f : FsAt h g fs) (fit : fs.Fits Qe) (hk : ∀ h' mf mn, TreeAt h' mf mn fs.held → h.next ≤ mf → h.next ≤ mn → Only noL h h' → k (.agg [.map mf, .map mn]) h') : s31 (.ptr g.id 0) h k := by
  obtain ⟨n,hbn,hfit⟩:=fit
  obtain ⟨w,e1,e2⟩:=f.obj
  have hlen:fs.wait.length * 72≤Qe:=by have:=Km fs.wait;omega
  have hmost:Qe=140737488355328:=rfl
  show s31G J0 s49 s50 s51 _ h k
  unfold s31G
  refine Zg fun h2 o2 n2 g2=>?_
  have f2:=f.only o2 fun _ _=>id
  have e1':=o2.at e1 rfl id
  rw [QR,Qw,Qw,Q1 e1' rfl,QR,Qw,Qw,Q1 e1' rfl]
  refine Zg fun h10 o10 n10 g10=>?_
  have o210:Only noL h h10:=o2.trans o10 fun _ _=>id
  have f10:=f.only o210 fun _ _=>id
  obtain ⟨es,m1,m2⟩:=f10.tree.files
  refine p47 m1 fun h11 o11 n11 g11=>?_
  have o211:Only noL h h11:=o210.trans o11 fun _ _=>id
  have f11:=f.only o211 fun _ _=>id
  refine Qp (Zy (Z1 (o211.at e1 rfl id)) (G6 _)) ?_
  refine p48 f11.tree.names fun h13 o13 n13 g13=>?_
  have o213:Only noL h h13:=o211.trans o13 fun _ _=>id
  refine Qp rfl (Qp rfl ?_)
  have gb13:h13.get h2.next=.cells false 53 [.nilm,.nilm]:=o13.at (o11.at g10 rfl id) rfl id
  refine De gb13 rfl rfl rfl (by rw [o213.base];have:=f.wf;omega) fun h15 o15 n15 g15=>?_
  have gone:∀ i,i < h.next→¬ i=h2.next:=fun i hi e=>by omega
  have o215:Only noL h h15:=o213.trans o15 fun i hi e=>gone i hi e
  have f15:=f.only o215 fun _ _=>id
  have e15:=o215.at e1 rfl id
  rw [QR,Qw,Q1 e15 rfl]
  show ZH w _
  rw [e2.len]
  have hmf:h15.get h10.next=.smap es:=o15.at (o13.at g11 rfl id) rfl fun e=>by omega
  have hmn:h15.get h11.next=.smap (fs.sure.names.map Wn):=o15.at g13 rfl fun e=>by omega
  have ga15:h15.get h.next=.cells false 53 [.nilm,.nilm]:=o15.at (o13.at (o11.at (o10.at g2 rfl id) rfl id) rfl id) rfl fun e=>by omega
  have o1015:Only (· = h2.next) h10 h15:=((o11.trans o13 fun _ _=>id).imp fun _ _ c=>c.elim).trans o15 fun _ _=>id
  refine W0 (fun m v d h'=>∃ i,R35 h fs w h.next h2.next h10.next h11.next m v d h' i) (fun m self v d hc inv next=>?_) (n:=fs.wait.length) (by show _ < 4611686018427387904;omega) ⟨0,rfl,Nat.zero_le _,rfl,rfl,o215,ga15,g15,?_⟩
  · obtain ⟨i, I⟩ := inv
    obtain ⟨hm,hle,rfl,rfl,ho,ga,gb,ht⟩:=I
    have hwf:hc.base≤hc.next:=ht.wf
    show asI .i64 (.int .i64 (Int.ofNat i)) _
    rw [Qa,Qa,Qg]
    refine QP (fun h0=>?_) fun h0=>?_
    · have hi := ZI.1 h0
      refine WaitAt.read (e2.only ho fun _ _=>id) hi fun p u hu=>?_
      refine Zg fun h29 o29 n29 g29=>?_
      refine De g29 rfl (Stp.ones _ hu.one) rfl (by rw [o29.base];exact hwf) fun h30 o30 n30 g30=>?_
      have o130:Only noL hc h30:=o29.trans o30 fun j hj e=>by omega
      show ldN 2 (.ptr h2.next 0) h30 _
      rw [YB (o130.at gb rfl id) rfl,YB g30 rfl]
      refine p43 (ht.only o130 id id) (hu.only o130) (hbn.steps (t:=fs.sure)) (by have:=N9 hi;omega) fun h33 q33 o33=>?_
      show asI .i64 (.int .i64 (Int.ofNat i)) _
      rw [Qa,KP (by omega),Qo]
      have hf:=ht.lf
      have hn:=ht.ln
      have far:∀ j,Two h10.next h11.next j→¬ j < h.next∧j≠h.next∧j≠h2.next:=by
        rintro j (rfl | rfl) <;> omega
      have o1c:Only (Two h10.next h11.next) hc h33:=(o130.imp fun _ _ c=>c.elim).trans o33 fun _ _=>id
      refine next (fs.wait.length - (i+1)) _ _ _ (by omega) ⟨i+1,rfl,hi,rfl,rfl,ho.trans o1c fun j hj c=>(far j c).1 hj,o1c.at ga rfl fun c=>(far _ c).2.1 rfl,o1c.at gb rfl fun c=>(far _ c).2.2 rfl,?_⟩
      rw [List.take_succ_eq_append_getElem hi,G0]
      exact q33
    · have hi := Vl.1 h0
      have:i=fs.wait.length:=by omega
      subst this
      rw [List.take_length] at ht
      show ldN 2 (.ptr h2.next 0) hc _
      rw [YB gb rfl]
      refine De ga rfl rfl rfl (by rw [ho.base];exact f.wf) fun h37 o37 n37 g37=>?_
      show ldN 2 (.ptr h.next 0) h37 _
      rw [YB g37 rfl]
      refine hk _ _ _ (ht.only o37 (fun e=>by omega) fun e=>by omega) (by omega) (by omega) (ho.trans o37 fun j hj e=>by omega)
  · refine ⟨?_, ?_, by omega, ⟨es, hmf, ?_⟩, hmn⟩
    · rw [o215.base];have:=f.wf;omega
    · rw [o215.base];have:=f.wf;omega
    · exact m2.only o1015
end Go.Proofs.YtfgdelkdmdmfgaaDoor
namespace Go.Am
open Go
set_option linter.all false
def U6 (c:UInt8):Bool:=decide (33≤c.toNat) && decide (c.toNat≤126)
def named (s:List UInt8):Bool:=decide (s≠[]) && decide (s.length≤32) && s.all U6
def Fs.asked (fs:Fs) (l:List (List UInt8)):Int:=if fs.off then 7 else if l.all named then 0 else 2
noncomputable def Fs.raw (fs:Fs):Int × Fs :=
  if fs.fused && decide (fs.left=0) then (7,{ fs with off:=true })
  else (0,{ fs with left:=if fs.fused then Qd .i64 (Int.sub fs.left 1) else fs.left,steps:=Qd .i64 (Int.add fs.steps 1) })
structure Nxt (h:H) (g:FsG) (h':H) (g':FsG):Prop where
  id:g'.id=g.id
  o:Only (Own g) h h'
  own:∀ i,Own g' i→Own g i∨h.next≤i
theorem Nxt.refl (h:H) (g:FsG):Nxt h g h g:=⟨rfl,Only.refl _ _,fun _=>.inl⟩
theorem Nxt.pure {h h':H} (g:FsG) (o:Only noL h h'):Nxt h g h' g:=⟨rfl,o.imp fun _ _ c=>c.elim,fun _=>.inl⟩
theorem Nxt.trans {h h1 h2:H} {g g1 g2:FsG} (a:Nxt h g h1 g1) (b:Nxt h1 g1 h2 g2):Nxt h g h2 g2 :=
  ⟨b.id.trans a.id,a.o.trans b.o fun i hi c=>(a.own i c).resolve_right (by omega),fun i c=>(b.own i c).elim (a.own i) fun hi=>.inr (Nat.le_trans a.o.next hi)⟩
def ArgS (h:H) (v:AV) (l:List (List UInt8)):Prop:=(l=[]∧v=.nils)∨∃ id cap ex,v=.slice id 0 l.length cap 1 ex∧h.get id=.cells false 9 (l.map fun s=>.str (Str.of s))
theorem Own.live {h:H} {g:FsG} {fs:Fs} (f:FsAt h g fs) {i:Nat} (o:Own g i):i < h.next:=by
  obtain ⟨w,e1,e2⟩:=f.obj
  rcases o with rfl | rfl | rfl | o
  · exact H.lt_of_live (by rw [e1];rfl)
  · exact f.tree.lf
  · exact f.tree.ln
  · rcases e2 with ⟨_, _, h1⟩ | ⟨_, id, mv, cs, h1, h2, h3, h4, h5⟩
    · rw [h1] at o;cases o
    · rw [h1] at o;injection o with o;subst o;exact H.lt_of_live (by rw [h4];rfl)
theorem FsAt.apart {h:H} {g:FsG} {fs:Fs} (f:FsAt h g fs):g.id≠g.mf∧g.id≠g.mn∧g.wr≠some g.id:=by
  obtain ⟨w,e1,e2⟩:=f.obj
  obtain ⟨es,e3,_⟩:=f.tree.files
  refine ⟨fun e=>?_,fun e=>?_,fun e=>?_⟩
  · rw [← e,e1] at e3;cases e3
  · have:=f.tree.names;rw [← e,e1] at this;cases this
  · rcases e2 with ⟨_, _, h1⟩ | ⟨_, id, mv, cs, h1, h2, h3, h4, h5⟩
    · rw [h1] at e;cases e
    · rw [h1] at e;injection e with e;subst e;rw [e1] at h4;injection h4 with _ h4;cases h4
theorem FsAt.apart' {h:H} {g:FsG} {fs:Fs} (f:FsAt h g fs) {i:Nat} (e:g.wr=some i):i≠g.mf∧i≠g.mn:=by
  obtain ⟨w,e1,e2⟩:=f.obj
  obtain ⟨es,e3,_⟩:=f.tree.files
  rcases e2 with ⟨_,_,h1⟩ | ⟨_,id,mv,cs,h1,h2,h3,h4,h5⟩
  · rw [h1] at e;cases e
  · rw [h1] at e; injection e with e; subst e
    refine ⟨fun e=>?_,fun e=>?_⟩
    · rw [e,e3] at h4;cases h4
    · rw [e,f.tree.names] at h4;cases h4
theorem FsAt.put {h h':H} {g:FsG} {fs fs':Fs} (f:FsAt h g fs) (o:Only (· = g.id) h h') (ht:fs'.sure=fs.sure) (hw:fs'.wait=fs.wait) (e:∀ w,h.get g.id=.cells false 56 (fs.cells g w)→h'.get g.id=.cells false 56 (fs'.cells g w)):FsAt h' g fs':=by
  obtain ⟨w,e1,e2⟩:=f.obj
  have a:=f.apart
  refine ⟨by rw [o.base];exact f.bs,⟨w,e w e1,by rw [hw];exact e2.only o fun i e c=>a.2.2 (by rw [e,c])⟩,by rw [ht];exact f.tree.only o (fun c=>a.1 c.symm) fun c=>a.2.1 c.symm⟩
end Go.Am
namespace Go.Proofs.YtfgdelkdmdmfgaaDoor
open Go Go.Am
set_option linter.all false
set_option maxRecDepth 100000
theorem lt33 (c:UInt8):ltI (bI c) (Int.ofNat 33) = !decide (33≤c.toNat):=by
  rw [Vm]
  unfold bI
  by_cases h:33≤c.toNat
  · rw [decide_eq_true h,decide_eq_false];rfl;simp only [Int.ofNat_eq_natCast];omega
  · rw [decide_eq_false h,decide_eq_true];rfl;simp only [Int.ofNat_eq_natCast];omega
theorem gt126 (c:UInt8):ltI (Int.ofNat 126) (bI c) = !decide (c.toNat≤126):=by
  rw [Vm]
  unfold bI
  by_cases h:c.toNat≤126
  · rw [decide_eq_true h,decide_eq_false];rfl;simp only [Int.ofNat_eq_natCast];omega
  · rw [decide_eq_false h,decide_eq_true];rfl;simp only [Int.ofNat_eq_natCast];omega
theorem p46 {s : List UInt8} {h : H} {k : Bool → H → Prop} (hk : k (named s) h) : s33 (Str.of s) h k := by
  show s33G J0 _ h k
  unfold s33G
  rw [of_nil,GQ,Qg]
  by_cases h0:s=[]
  · subst h0
    simp only [decide_true,QO,Qq,QS,Qm]
    exact hk
  · simp only [decide_eq_false h0, Qr, Qq, QF, Qm, Wk, Qa, Qg]
    rw [Ws]
    refine QP (fun h1=>?_) fun h1=>?_
    · have h1 := ZI.1 h1
      have:named s=false:=by unfold named;rw [decide_eq_false (show ¬ s.length≤32 by omega)];simp
      rw [← this];exact hk
    · have h1 := Vl.1 h1
      refine W0 (fun m v d h'=>∃ i,m=s.length - i∧i≤s.length∧v=(.str (Str.of s),.int .i64 (Int.ofNat s.length),.int .i64 (Int.ofNat i),())∧d=[]∧h'=h∧∀ j (hj:j < s.length),j < i→U6 s[j]=true) (fun m self v d hc inv next=>?_) (n:=s.length) (by show _ < 4611686018427387904;omega) ⟨0,rfl,Nat.zero_le _,rfl,rfl,rfl,fun j _ hj=>absurd hj (Nat.not_lt_zero _)⟩
      obtain ⟨i,rfl,hi,rfl,rfl,rfl,hj⟩:=inv
      dsimp only
      rw [Qa,Qa]
      refine QP (fun h2=>?_) fun h2=>?_
      · have h2 := ZI.1 h2
        simp only [QeH h2,lt33,gt126]
        have no:U6 s[i]=false→named s=false:=fun q=>by
          unfold named
          rw [show s.all U6=false from by
            rw [List.all_eq_false];exact ⟨s[i],List.getElem_mem h2,by rw [q];simp⟩]
          simp
        by_cases h3:33≤s[i].toNat
        · simp only [decide_eq_true h3, Bool.not_true, Qr, QeH h2]
          simp only [Qa,Qg,gt126,QF,Qm]
          by_cases h4:s[i].toNat≤126
          · simp only [decide_eq_true h4, Bool.not_true, Qr]
            rw [KP (by omega),Qo]
            refine next (s.length - (i+1)) _ _ _ (by omega) ⟨i+1,rfl,h2,rfl,rfl,rfl,fun j hj1 hj2=>?_⟩
            by_cases e:j=i
            · subst e;unfold U6;rw [decide_eq_true h3,decide_eq_true h4];rfl
            · exact hj j hj1 (by omega)
          · simp only [decide_eq_false h4, Bool.not_false, QO]
            have:=no (by unfold U6;rw [decide_eq_false h4];simp)
            show k false hc
            rw [← this];exact hk
        · simp only [decide_eq_false h3, Bool.not_false, QO, QS, Qm]
          have:=no (by unfold U6;rw [decide_eq_false h3];simp)
          show k false hc
          rw [← this];exact hk
      · have h2 := Vl.1 h2
        have:named s=true:=by
          unfold named
          rw [decide_eq_true h0,decide_eq_true h1,show s.all U6=true from List.all_eq_true.2 fun c hc=>?_]
          · rfl
          · obtain ⟨j, hj1, rfl⟩ := List.mem_iff_getElem.1 hc
            exact hj j hj1 (by omega)
        show k true hc
        rw [← this];exact hk
end Go.Proofs.YtfgdelkdmdmfgaaDoor
