import Derived.Test.YtbcfpeelkaoljaaDoorPxB
namespace Go.Am
open Go
set_option linter.all false
theorem min_i (a b:Int):(Bool.rec a b (ltI b a):Int)=min a b:=by
  rw [WV]
  by_cases h:b < a
  · rw [decide_eq_true h];show b=_;omega
  · rw [decide_eq_false h];show a=_;omega
theorem SlB.first {h:H} {v:AV} {b:List UInt8} (s:SlB h v b) {n:Nat} (hn:n≤b.length) {kk:IntKind} {k:AV→Prop} (hk:∀ v',SlB h v' (b.take n)→k v') :
    slK 1 v none (some (.int kk (Int.ofNat n))) k:=by
  rcases s with ⟨rfl,rfl⟩ | ⟨id,off,cap,ex,t,f,sg,l,rfl,e2,e3,e4,e5⟩
  · have : n = 0 := by simpa using hn
    subst this
    exact Qm rfl (Qm rfl (hk _ (.inl ⟨rfl,rfl⟩)))
  · have el : (b.take n).length = n := by rw [List.length_take]; omega
    have e:(l.take (off+n)).drop off=b.take n:=by
      rw [← e4,List.drop_take,List.drop_take,List.take_take]
      congr 1;omega
    unfold slK
    rw [Zp]
    show ck (Nat.ble n cap) (ck (Nat.ble 0 n) (ck true (br (Nat.beq cap 0) _ _)))
    rw [(Qh _ _).2 (by omega),(Qh _ _).2 (Nat.zero_le _),UT,UT,UT,QX,QX,QX,QX]
    have e0:Nat.add off (Nat.mul 0 1)=off:=by show off+0 * 1=off;omega
    have e1:Nat.sub n 0=n:=by show n - 0=n;omega
    have e9:Nat.sub cap 0=cap:=by show cap - 0=cap;omega
    rw [e0,e1,e9]
    refine QD (fun h0=>?_) fun h0=>?_
    · rw [Nat.beq_eq] at h0
      exact hk _ (.inr ⟨id,off,0,ex,t,f,sg,l,by rw [el],e2,by rw [el];omega,by rw [el];exact e,by rw [el];omega⟩)
    · exact hk _ (.inr ⟨id,off,cap,ex,t,f,sg,l,by rw [el],e2,by rw [el];omega,by rw [el];exact e,by rw [el];omega⟩)
end Go.Am
namespace Go.Proofs.YtbcfpeelkaoljaaDoor
open Go Go.Am
set_option linter.all false
set_option maxRecDepth 100000
theorem crashed_end {fs:Fs} {k t:Nat} (h:fs.wait.length≤k):fs.crashed k t=fs.wait:=by
  unfold Fs.crashed
  rw [List.getElem?_eq_none h,List.take_of_length_le h];simp
theorem crashed_at {fs:Fs} {k t:Nat} (h:k < fs.wait.length):fs.crashed k t=fs.wait.take k++(if fs.wait[k].kind=0 then [{ fs.wait[k] with bytes:=fs.wait[k].bytes.take (min t (fs.wait[k].bytes.length - 1)) }] else []):=by
  unfold Fs.crashed
  rw [List.getElem?_eq_getElem h]
structure R17 (h0:H) (g:FsG) (fs:Fs) (kk t:Nat) (w:AV) (m:Nat) (v:AV × AV × AV × AV × AV × AV × Unit) (d:List Dfr) (h:H) (i:Nat):Prop where
  m:m=fs.wait.length - i
  le:i≤fs.wait.length
  lk:i≤kk
  v:v=(.ptr g.id 0,.int .i64 (Int.ofNat kk),.int .i64 (Int.ofNat t),w,.int .i64 (Int.ofNat fs.wait.length),.int .i64 (Int.ofNat i),())
  d:d=[]
  o:Only (Two g.mf g.mn) h0 h
  t:TreeAt h g.mf g.mn (fs.sure.steps (fs.wait.take i))
theorem p17 {h : H} {g : FsG} {fs : Fs} {N c : Nat} {kk t : Int} {k : Int → H → Prop} (f : FsAt h g fs) (i : Inv fs N c) (hN : N ≤ Qe) (hc : c ≤ 1000000)
    (hk:∀ h' g',FsAt h' g' (fs.crash kk t).2→Nxt h g h' g'→k (fs.crash kk t).1 h'):Qan (.ptr g.id 0) kk t h k:=by
  have fit:fs.Fits Qe:=i.fit.mono hN
  obtain ⟨n,hbn,hfit⟩:=fit
  obtain ⟨w,e1,e2⟩:=f.obj
  have hlen:fs.wait.length * 72≤Qe:=by have:=UV fs.wait;omega
  have hmost:Qe=140737488355328:=rfl
  unfold Qan Qd6 nilB
  rw [show Nat.beq (ZO (.ptr g.id 0)) 0=false from rfl,Qq,show Nat.beq (ZO (.ptr g.id 0)) (Nat.succ 0)=true from rfl,UT]
  simp only [Qs,Qq,QJ,Qt]
  rw [YR e1 rfl]
  simp only [Ql,Qi,Bool.not_true,QA,Qq]
  by_cases h0:kk < 0
  · have : fs.crash kk t = (2, fs) := by unfold Fs.crash; rw [if_pos (.inl h0)]
    rw [this] at hk
    rw [show ltI kk (Int.ofNat 0)=true from Yj.2 h0]
    simp only [QU,QQ,Ql]
    exact hk h g f (Nxt.refl _ _)
  rw [show ltI kk (Int.ofNat 0)=false from ZJ.2 (Int.not_lt.1 h0)]
  simp only [Qq,QA,Ql,Qd,Qi]
  by_cases h1:t < 0
  · have : fs.crash kk t = (2, fs) := by unfold Fs.crash; rw [if_pos (.inr h1)]
    rw [this] at hk
    rw [show ltI t (Int.ofNat 0)=true from Yj.2 h1]
    simp only [QU]
    exact hk h g f (Nxt.refl _ _)
  rw [show ltI t (Int.ofNat 0)=false from ZJ.2 (Int.not_lt.1 h1)]
  simp only [Qq,Jf]
  obtain ⟨kn,rfl⟩:=Int.eq_ofNat_of_zero_le (Int.not_lt.1 h0)
  obtain ⟨tn,rfl⟩:=Int.eq_ofNat_of_zero_le (Int.not_lt.1 h1)
  have ec:fs.crash (Int.ofNat kn) (Int.ofNat tn)=(0,{ fs with sure:=⟨WY (fs.sure.steps (fs.crashed kn tn)).files (fs.sure.steps (fs.crashed kn tn)).names [],(fs.sure.steps (fs.crashed kn tn)).names⟩,wait:=[],fused:=false,off:=false }):=by
    unfold Fs.crash;rw [if_neg (by simp only [Int.ofNat_eq_natCast];omega)];rfl
  have hk:∀ h' g',FsAt h' g' (fs.crash (Int.ofNat kn) (Int.ofNat tn)).2→Nxt h g h' g'→k (fs.crash (Int.ofNat kn) (Int.ofNat tn)).1 h':=hk
  rw [ec] at hk
  have a:=f.apart
  have two:∀ j,Two g.mf g.mn j→Own g j:=by rintro j (c | c);exact .inr (.inl c);exact .inr (.inr (.inl c))
  have tid:¬ Two g.mf g.mn g.id:=by rintro (c | c);exact a.1 c;exact a.2.1 c
  have twr:∀ j,g.wr=some j→¬ Two g.mf g.mn j:=by rintro j e (c | c);exact (f.apart' e).1 c;exact (f.apart' e).2 c
  have leave:∀ hx,TreeAt hx g.mf g.mn (fs.sure.steps (fs.crashed kn tn))→Only (Two g.mf g.mn) h hx→J9 h.next k (.ptr g.id 0,()) [] hx:=by
    intro hx ht ho
    have fx:FsAt hx g { fs with sure:=fs.sure.steps (fs.crashed kn tn) }:=⟨by rw [ho.base];exact f.bs,⟨w,ho.at e1 rfl tid,e2.only ho twr⟩,ht⟩
    have gn:=i.nm kn
    have en:(fs.sure.steps (fs.crashed kn tn)).names=ZB fs.sure.names (fs.wait.take kn):=by rw [ZA,YU]
    refine p17r fx ho.next ?_ ?_ fun h' g' f' nx=>hk h' g' f' (Nxt.trans (⟨rfl,ho.imp fun j _ c=>two j c,fun _=>.inl⟩:Nxt h g hx g) nx)
    · show (((fs.sure.steps (fs.crashed kn tn)).names).map (·.2)).Nodup
      rw [en];exact gn.nodup
    · show (fs.sure.steps (fs.crashed kn tn)).names.length ≤ _
      rw [en];exact Nat.le_trans gn.len hc
  rw [QZ e1 rfl]
  show Zi w _
  rw [e2.len]
  refine WC (fun m v d h'=>∃ j,R17 h g fs kn tn w m v d h' j) (fun m self v d hx inv next=>?_) (n:=fs.wait.length) (by show _ < 4611686018427387904;omega) ⟨0,rfl,Nat.zero_le _,Nat.zero_le _,rfl,rfl,Only.refl _ _,f.tree⟩
  obtain ⟨j,hm',hle,hjk,rfl,rfl,ho,ht⟩:=inv
  have hwf:hx.base≤hx.next:=ht.wf
  dsimp only
  simp only [Qd]
  refine QD (fun h2=>?_) fun h2=>?_
  · have hi := ZC.1 h2
    have hwi:=Jy hi
    refine WaitAt.read (e2.only ho twr) hi fun pp u hu=>?_
    refine Q8 fun h23 o23 n23 g23=>?_
    refine KH g23 rfl (Stp.ones _ hu.one) rfl (by rw [o23.base];exact hwf) fun h24 o24 n24 g24=>?_
    have oc24:Only noL hx h24:=o23.trans o24 fun j hj e=>by omega
    have t24:=ht.only oc24 id id
    have e24:=(oc24.at (ho.at e1 rfl tid) rfl id:h24.get g.id=_)
    have rest:∀ (hy:H) (tt:Tre),TreeAt hy g.mf g.mn tt→Only (Two g.mf g.mn) hx hy→(kn≤j→tt=fs.sure.steps (fs.crashed kn tn))→(j < kn→tt=fs.sure.steps (fs.wait.take j)∧∃ u',hy.get hx.next=.cells false 75 (fs.wait[j].cells u')∧SlB hy u' fs.wait[j].bytes) →
      br (!ltI (Int.ofNat j) (Int.ofNat kn)) (J9 h.next k (.ptr g.id 0,()) [] hy) (ldN 2 (AV.ptr g.id (Nat.add 0 0)) hy fun l95=>ldN 5 (AV.ptr hx.next 0) hy fun l96=>s30 (AV.agg l95) (AV.agg l96) hy fun h97=>
        fI (Qc IntKind.i64 ((Int.ofNat j).add (Int.ofNat 1))) fun x99=>self (.ptr g.id 0,.int .i64 (Int.ofNat kn),.int .i64 (Int.ofNat tn),w,.int .i64 (Int.ofNat fs.wait.length),.int .i64 x99,()) [] h97):=by
      intro hy tt hty hoy hge hlt
      have hohy:Only (Two g.mf g.mn) h hy:=ho.trans hoy fun _ _ c=>c
      refine QD (fun h3=>?_) fun h3=>?_
      · have h3 : kn ≤ j := Wg.1 (Am.not_true.1 h3)
        exact leave hy (hge h3 ▸ hty) hohy
      · have h3 : j < kn := ZC.1 (ZI.1 h3)
        obtain ⟨et,u',gu,hu'⟩:=hlt h3
        subst et
        have ey:=hohy.at e1 rfl tid
        rw [ZY ey (show _=some [.map g.mf,.map g.mn] from rfl),ZY gu (show _=some (fs.wait[j].cells u') from rfl)]
        refine p43 hty hu' (hbn.steps (t:=fs.sure)) (by omega) fun h32 t32 o32=>?_
        rw [JI (by omega),Qx]
        refine next (fs.wait.length - (j+1)) _ _ _ (by omega) ⟨j+1,rfl,hi,h3,rfl,rfl,hohy.trans o32 fun _ _ c=>c,?_⟩
        rw [List.take_succ_eq_append_getElem hi,Un]
        exact t32
    by_cases hjk':j=kn
    · subst hjk'
      have ece:=crashed_at (fs:=fs) (t:=tn) hi
      rw [show eqI (Int.ofNat j) (Int.ofNat j)=true from Zj.2 rfl]
      simp only [QU]
      rw [Q1 g24 rfl]
      simp only [Qd,QQ,Ql,QaN]
      by_cases h0:fs.wait[j].kind=0
      · rw [show decide (fs.wait[j].kind = Int.ofNat 0) = true from decide_eq_true h0, QU]
        rw [if_pos h0] at ece
        rw [QZ g24 rfl,QZ g24 rfl,(hu.only oc24).len]
        have hne:=i.full _ (List.getElem_mem hi) h0
        have hpos:0 < fs.wait[j].bytes.length:=List.length_pos_iff.2 hne
        have em:Qc .i64 ((Int.ofNat fs.wait[j].bytes.length).sub (Int.ofNat 1))=Int.ofNat (fs.wait[j].bytes.length - 1):=by
          have e':(Int.ofNat fs.wait[j].bytes.length).sub (Int.ofNat 1)=Int.ofNat (fs.wait[j].bytes.length - 1):=by
            show (Int.ofNat fs.wait[j].bytes.length) - (Int.ofNat 1)=_
            simp only [Int.ofNat_eq_natCast];omega
          rw [e'];exact Zg (by show _ < 9223372036854775808;omega)
        rw [em,Qx]
        unfold QaW
        dsimp only
        rw [QB,Qd,min_i]
        have emin:min (Int.ofNat tn) (Int.ofNat (fs.wait[j].bytes.length - 1))=Int.ofNat (min tn (fs.wait[j].bytes.length - 1)):=by
          simp only [Int.ofNat_eq_natCast];omega
        rw [emin]
        refine SlB.first (hu.only oc24) (by omega) fun v' hv'=>?_
        refine Yr g24 hv'.one rfl (by rw [oc24.base];omega) fun h30 o30 n30 g30=>?_
        have lf:=f.tree.lf
        have ln:=f.tree.ln
        have hnx:=ho.next
        have t30:=t24.only o30 (fun c=>by omega) fun c=>by omega
        have oc30:Only noL hx h30:=oc24.trans o30 fun q hq c=>by omega
        have e30:=(oc30.at (ho.at e1 rfl tid) rfl id:h30.get g.id=_)
        simp only [QJ,Qt]
        rw [ZY e30 (show _=some [.map g.mf,.map g.mn] from rfl),ZY g30 (show _=some (({ fs.wait[j] with bytes:=fs.wait[j].bytes.take (min tn (fs.wait[j].bytes.length - 1)) }:Stp).cells v') from rfl)]
        refine p43 (s:={ fs.wait[j] with bytes:=fs.wait[j].bytes.take (min tn (fs.wait[j].bytes.length - 1)) }) t30 (hv'.only o30) (hbn.steps (t:=fs.sure)) (by
          show _+(fs.wait[j].bytes.take _).length≤_
          rw [List.length_take];omega) fun h32 t32 o32=>?_
        refine rest h32 _ t32 ((oc30.imp fun _ _ c=>c.elim).trans o32 fun _ _ c=>c) (fun _=>?_) fun c=>by omega
        rw [ece,Un]
      · rw [show decide (fs.wait[j].kind = Int.ofNat 0) = false from decide_eq_false h0, Qq]
        rw [if_neg h0,List.append_nil] at ece
        refine rest h24 _ t24 (oc24.imp fun _ _ c=>c.elim) (fun _=>?_) fun c=>by omega
        rw [ece]
    · rw [show eqI (Int.ofNat j) (Int.ofNat kn) = false from Zb.2 (by simp only [Int.ofNat_eq_natCast]; omega)]
      simp only [Qq,QA,Ql]
      exact rest h24 _ t24 (oc24.imp fun _ _ c=>c.elim) (fun c=>by omega) fun _=>⟨rfl,u,g24,hu.only oc24⟩
  · have hi := Wg.1 h2
    have:j=fs.wait.length:=by omega
    subst this
    rw [List.take_length] at ht
    exact leave hx (by rw [crashed_end hjk];exact ht) ho
end Go.Proofs.YtbcfpeelkaoljaaDoor
