import Derived.Test.YtbcfpeelkaoljaaDoorVxO
namespace Go.Am
open Go
set_option linter.all false
def WY (fl:List (Int × List UInt8)):List (List UInt8 × Int)→List (Int × List UInt8)→List (Int × List UInt8)
  | [],acc=>acc
  | p::l,acc=>WY fl l (V0 acc p.2 (QS fl p.2))
theorem DX {x y:Int} {b:List UInt8}:∀ {l:List (Int × List UInt8)},ZM l y=none→y≠x→ZM (V0 l x b) y=none
  | [],_,h=>by unfold V0 ZM;rw [if_neg fun e=>h e.symm];rfl
  | p :: l, h, hn => by
    unfold ZM at h
    unfold V0
    split at h
    · cases h
    · rename_i hp
      split
      · unfold ZM;rw [if_neg fun e=>hn e.symm];unfold ZM;rw [if_neg hp];exact h
      · unfold ZM;rw [if_neg hp];exact DX h hn
def Fs.crashed (fs:Fs) (k t:Nat):List Stp:=fs.wait.take k++(match fs.wait[k]? with
  | some s=>if s.kind=0 then [{ s with bytes:=s.bytes.take (min t (s.bytes.length - 1)) }] else []
  | none=>[])
def Fs.crash (fs:Fs) (k t:Int):Int × Fs:=if k < 0∨t < 0 then (2,fs) else
  (0,{ fs with sure:=⟨WY (fs.sure.steps (fs.crashed k.toNat t.toNat)).files (fs.sure.steps (fs.crashed k.toNat t.toNat)).names [],(fs.sure.steps (fs.crashed k.toNat t.toNat)).names⟩,wait:=[],fused:=false,off:=false })
end Go.Am
namespace Go.Proofs.YtbcfpeelkaoljaaDoor
open Go Go.Am
set_option linter.all false
set_option maxRecDepth 100000
theorem QbM {h:H} {mf mn:Nat} {t:Tre} (q:TreeAt h mf mn t) {k:List (AV × AV)→Prop}:∀ (l:List (List UInt8 × Int)) (acc:List (AV × AV)) (fa:List (Int × List UInt8)),All2 (UN h) acc fa→(∀ p∈l,ZM fa p.2=none)→(l.map (·.2)).Nodup →
    (∀ kept,All2 (UN h) kept (WY t.files l fa)→k kept)→QdB (.map mf) h (l.map We) acc k
  | [],acc,fa,a,_,_,hk=>hk acc a
  | p :: l, acc, fa, a, hn, hd, hk => by
    obtain ⟨v,e1,hv⟩:=Qdv vt q p.2
    have e2:Zw (.int .i64) (.int .i64 p.2) acc=some none:=by
      rcases Qfo a p.2 with ⟨f1,f2⟩ | ⟨b',v',f1,f2,f3⟩
      · exact f2
      · rw [hn p List.mem_cons_self] at f1;cases f1
    show asI .i64 (.int .i64 p.2) _
    rw [Qd,e1,QB,e2,QB]
    rw [List.map_cons,List.nodup_cons] at hd
    refine QbM q l _ (V0 fa p.2 (QS t.files p.2)) (insFv a hv) (fun r hr=>DX (hn r (List.mem_cons_of_mem _ hr)) fun e=>hd.1 (e ▸ List.mem_map.2 ⟨r,hr,rfl⟩)) hd.2 hk
theorem p17r {h:H} {g:FsG} {fs:Fs} {N:Nat} {k:Int→H→Prop} (f:FsAt h g fs) (hN:N≤h.next) (hd:(fs.sure.names.map (·.2)).Nodup) (hl:fs.sure.names.length≤1000000)
    (hk:∀ h' g',FsAt h' g' { fs with sure:=⟨WY fs.sure.files fs.sure.names [],fs.sure.names⟩,wait:=[],fused:=false,off:=false }→Nxt h g h' g'→k 0 h'):J9 N k (.ptr g.id 0,()) [] h:=by
  obtain ⟨w,e1,e2⟩:=f.obj
  have wf:=f.wf
  have a:=f.apart
  have lid:=Own.live f (.inl rfl:Own g g.id)
  have lf:=f.tree.lf
  have ln:=f.tree.ln
  unfold J9 QeL
  dsimp only
  rw [QJ,Qt]
  refine Yr e1 rfl rfl f.bs fun h37 o37 n37 g37=>?_
  rw [QJ,Qt]
  refine Yr g37 rfl rfl (by rw [o37.base];exact f.bs) fun h39 o39 n39 g39=>?_
  rw [QJ,Qt]
  have o39':=o37.trans o39 fun _ _=>id
  refine Yr g39 rfl rfl (by rw [o39'.base];exact f.bs) fun h41 o41 n41 g41=>?_
  have o:=o39'.trans o41 fun _ _=>id
  have q41:=f.tree.only o (fun c=>a.1 c.symm) fun c=>a.2.1 c.symm
  refine Qm ((Qh _ _).2 (by omega)) (Qm ((Qh _ _).2 q41.wf) ?_)
  refine Q8 fun h43 o43 n43 g43=>?_
  have q43:=q41.only o43 id id
  have e43:=o43.at g41 rfl id
  rw [QJ,Gc,Qt,Qt,QZ e43 rfl]
  unfold smC
  simp only [q43.names]
  refine Qm ((Qh _ _).2 q43.bn) (Qm ((Qh _ _).2 (by simpa using hl)) (Qm ((QH _ _).2 (by omega)) ?_))
  rw [Qt,QZ e43 rfl]
  show ck (Nat.blt g.mf h41.next) _
  refine Qm ((QH _ _).2 (by omega)) ?_
  refine QbM q43 fs.sure.names [] [] .nil (fun _ _=>rfl) hd fun kept hkept=>?_
  refine U6 g43 rfl (by intros;intro c;cases c) (by rw [o43.base];exact q41.wf) fun ha oa na ga=>?_
  refine Q8 fun hb ob nb gb=>?_
  have oab:Only (· = h41.next) h43 hb:=oa.trans ob fun _ _ c=>c.elim
  have eb:=oab.at e43 rfl fun e=>by omega
  have b43:h43.base=h.base:=o43.base.trans o.base
  refine Yr eb rfl rfl (by rw [oab.base,b43];exact f.bs) fun hc oc nc gc=>?_
  have ohc:Only (· = g.id) h hc:=((o.trans o43 fun _ _ c=>c.elim).trans oab fun i hi e=>by omega).trans oc fun _ _=>id
  have gk:=oc.at (ob.at ga rfl id) rfl fun e=>by omega
  refine hk hc ⟨g.id,h41.next,g.mn,none⟩ ⟨by rw [ohc.base];exact f.bs,⟨.nils,gc,.inl ⟨rfl,rfl,rfl⟩⟩,?_⟩ ⟨rfl,ohc.imp fun _ _ c=>.inl c,fun j c=>?_⟩
  · have t := f.tree.only ohc (fun c => a.1 c.symm) fun c => a.2.1 c.symm
    exact ⟨by show hc.base≤h41.next;rw [ohc.base];omega,t.bn,fun e=>by have:h41.next=g.mn:=e;omega,⟨kept,gk,(hkept.only oab).only oc⟩,t.names⟩
  · rcases c with c | c | c | c
    · exact .inl (.inl c)
    · right;have:j=h41.next:=c;omega
    · exact .inl (.inr (.inr (.inl c)))
    · cases c
end Go.Proofs.YtbcfpeelkaoljaaDoor
