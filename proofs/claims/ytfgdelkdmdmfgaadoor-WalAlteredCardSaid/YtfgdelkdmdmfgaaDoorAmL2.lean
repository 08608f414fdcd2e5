import Derived.Test.YtfgdelkdmdmfgaaDoorAmL1
noncomputable section
set_option linter.all false
namespace Go.Am
open Go
section
variable {P:Program} {T:Ty} (hT:YN P T) {μ:Mu}
def WOk (P:Program) (μ:Mu) (h:H) (w:World) (s:Sem Value) (r:AV) (h':H):Prop :=
  ∃ v w' μ',s.run P w=.ok v w'∧r.rel μ' v∧Post μ h w μ' h' w'
theorem V7 {h h':H} {w w':World} {k:Blk} {n es:Nat} {r:AV} {vs:Array Value} {t:TypeId} {cap:Nat} (hr:Rel μ h w) (e:WR k n es h=some (r,h')) (h1:w'.os=w.os) (h2:w'.tape=w.tape) (h3:w'.output=w.output)
    (hh:w'.heap=w.heap.push (.cells vs t (0,0))) (hk:BlkRel (upd μ h.next (w.heap.size,0) vs.size) w' w.heap.size 0 k) (hc:n≤cap) (hsz:vs.size=cap * es) :
    ∃ μ',r.rel μ' (.slice (some ⟨w.heap.size,0,none⟩) n cap)∧Post μ h w μ' h' w':=by
  unfold WR at e
  split at e
  · rename_i i h1' hp
    injection e with e;injection e with e1 e2;subst e1 e2
    obtain ⟨rfl,hpost⟩:=Xr (s:=vs.size) hr hp h1 h2 h3 hh (fun _ _ _ e=>by injection e with e1;rw [e1]) hk
    refine ⟨_,?_,hpost⟩
    simp only [AV.rel]
    exact ⟨_,_,_,_,_,Ze _ _ _ _,rfl,.inl rfl,fun _=>rfl,hc,fun h=>(by cases h),Nat.le_refl _,Nat.le_refl _,by rw [UW,hsz];omega⟩
  · cases e
theorem XX {μ':Mu} {w':World} {b:Nat} {t:TypeId} {l:List UInt8} {zs:Array Value} {fz:Nat} {sg:Bool} (hh:w'.heap[b]?=some (.cells ((l.map fun u=>Value.int .u8 u.toNat).toArray++zs) t (0,0))):BlkRel μ' w' b 0 (.bytes t fz sg (Str.of l)):=by
  refine ⟨_,(0,0),l,hh,rfl,fun i x hx=>?_,fun o _ _ h=>by omega,fun _=>.inl rfl⟩
  have hi:i < l.length:=(List.getElem?_eq_some_iff.1 hx).1
  rw [Nat.zero_add,Array.getElem?_append_left (by simpa using hi)]
  simp [hx]
theorem JR {μ':Mu} {w':World} {b:Nat} {mv:Bool} {t:TypeId} {as:List AV} {vs:List Value} {zs:Array Value} (hh:w'.heap[b]?=some (.cells (vs.toArray++zs) t (0,0))) (hr:AV.relL μ' as vs):BlkRel μ' w' b 0 (.cells mv t as):=by
  refine ⟨_,(0,0),hh,fun i a ha=>?_,fun o _ _ h=>by omega,fun _=>rfl⟩
  obtain ⟨v,hv,hvr⟩:=AV.relL_get hr i a ha
  have hi:i < vs.length:=(List.getElem?_eq_some_iff.1 hv).1
  exact ⟨v,by rw [Nat.zero_add,Array.getElem?_append_left (by simpa using hi)];simpa using hv,hvr⟩
theorem Qc8 {t2:Nat} {d2:TypeDesc} (hk:Jr (T t2).kd d2) (ht2:(T t2).kd=.str∨∃ e',(T t2).kd=.slice e'):∀ k,d2≠.int k:=by
  intro k hd
  subst hd
  rcases ht2 with h | ⟨e',h⟩ <;> rw [h] at hk <;> cases hk
include hT in
theorem appendB_ok {t t2 ty e : Nat} {s x r : AV} {vs vx : Value} {h h' : H} {w : World} (ht : (T t).kd = .slice e) (hk : (T e).kd = .int .u8) (hsz : (T e).size = 1) (hby : (T e).bytes = 1) (hzl : (T e).zero.length = 1)
    (ht2:(T t2).kd=.str∨∃ e',(T t2).kd=.slice e') (hr:Rel μ h w) (ee:Jq e s x h=some (r,h')) (hs:s.rel μ vs) (hx:x.rel μ vx):WOk P μ h w (Builtin.append_ #[t,t2] ty #[vs,vx]) r h':=by
  obtain ⟨_,h1,rfl⟩:=QJ hT ht rfl
  obtain ⟨d2,h2,hd2⟩:=QJ (t:=t2) hT rfl (by rcases ht2 with h | ⟨e',h⟩ <;> rw [h] <;> rfl)
  have hni:=Qc8 (T:=T) hd2 ht2
  obtain ⟨i,z,hi,his,hib,hiz,hzr,_⟩:=(hT e (by rw [hk];rfl)).info
  have hz1:z.cells.size=1:=by have:=AV.relL_length hzr;rw [hzl] at this;simpa using this
  have hzc:∀ m,(Builtin.zeroCells z.cells m).size=m:=fun m=>by rw [size_zeroCells,hz1,Nat.mul_one]
  rw [hsz] at his;rw [hby] at hib
  unfold Jq at ee
  split at ee
  · cases ee
  · rename_i src hsrc
    obtain ⟨l,rfl,hS⟩:=QcO (P:=P) hr hsrc hx
    rw [← his] at hS
    have hn:(Str.of l).len=l.length:=rfl
    split at ee
    ·
      simp only [AV.rel] at hs;subst hs
      rw [Str.brec] at ee
      split at ee
      · rename_i c0; rw [Nat.beq_eq, hn] at c0
        injection ee with ee;injection ee with e1 e2;subst e1 e2
        rw [c0] at hS
        exact ⟨_,w,μ,Jl h1 h2 hni hi hS,by simp [AV.rel],Post.refl hr⟩
      · rename_i c0; rw [Nat.beq_eq, hn] at c0
        rw [Str.brec] at ee
        split at ee
        · rename_i c1; rw [Qk, hn] at c1
          unfold Qe at c1
          obtain ⟨cap,hcap,hrun⟩:=YE (ty:=ty) (w:=w) (base:=none) (sLen:=0) (sCap:=0) (olds:=#[]) h1 h2 hni hi hiz rfl (fun w' _=>rfl) hS (by omega) (by rw [hib];omega) (by omega)
          rw [Nat.zero_add] at hrun hcap
          obtain ⟨μ',q1,q2⟩:=V7 (cap:=cap) hr ee rfl rfl rfl (w':=w.drew.alloc (.cells (#[]++(l.map fun u=>Value.int .u8 u.toNat).toArray++Builtin.zeroCells z.cells (cap - l.length)) e)) rfl
            (XX (zs:=Builtin.zeroCells z.cells (cap - l.length)) (by show (w.heap.push _)[w.heap.size]?=_;simp)) (by omega) (by simp [hzc];omega)
          exact ⟨_,_,μ',hrun,q1,q2⟩
        · cases ee
    · rename_i id off len cap es ex
      simp only [AV.rel] at hs
      obtain ⟨b,d,c,o,qa,hm,rfl,hodd,ho,hc,hex,hle,hdo,hes⟩:=hs
      have hbk:=hr.blk id b d hm
      split at ee
      · rename_i bt fz sg str hg
        rw [hg] at hbk
        obtain ⟨ccs,fr,lo,g1,rfl,g2,g3,g4⟩:=hbk
        have hlo:(Str.of lo).len=lo.length:=rfl
        simp only [seqN_eq,Nat.add_eq,hn,hlo] at ee
        rw [Str.brec] at ee
        have hlive:(h.get id).live=true:=by rw [hg];rfl
        split at ee
        ·
          rename_i c0;rw [Qk] at c0
          rw [Str.brec] at ee
          split at ee
          · rename_i c1; rw [Nat.beq_eq] at c1
            injection ee with ee;injection ee with e1 e2;subst e1 e2
            rw [c1] at hS
            refine ⟨_,w,μ,Z0 (ty:=ty) (w':=w) h1 h2 hni hi hS (by omega) ?_,?_,Post.refl hr⟩
            · have : l = [] := List.length_eq_zero_iff.1 c1
              subst this;rfl
            · simp only [AV.rel];exact ⟨b,d,c,o,qa,hm,by simp,hodd,ho,hc,hex,hle,hdo,hes⟩
          · rename_i c1; rw [Nat.beq_eq] at c1
            simp only [Str.brec] at ee
            split at ee
            · rename_i c2; rw [Qk] at c2
              split at ee
              · rename_i c3; rw [Qk] at c3
                split at ee
                · rename_i h1' hp
                  injection ee with ee;injection ee with e1 e2;subst e1 e2
                  have g3:=g3 (WH hr hp)
                  have ho:=ho (by omega)
                  subst ho
                  obtain rfl:=hodd.resolve_right (by omega)
                  have hfit:d+(off+(len+l.length))≤ccs.size:=by
                    have hlast:=g2 (off+(len+l.length) - 1) _ (List.getElem?_eq_getElem (by omega))
                    have:=(Array.getElem?_eq_some_iff.1 hlast).1;omega
                  obtain ⟨w',s1,s2,s3⟩:=Zx (P:=P) b (d+off+len * i.size) bt fr (l.map fun u=>Value.int .u8 u.toNat) 0 w ccs g1 (by simp [his];omega) (fun j hj hj'=>by simp [his] at hj hj';exact g3 j (by omega) (by omega)) (by
                    intro v hv;rw [List.mem_map] at hv;obtain ⟨u,_,rfl⟩:=hv;rfl)
                  refine ⟨_,w',μ,Z0 (ty:=ty) (w':=w') h1 h2 hni hi hS (by omega) (by rw [ZM];simpa using s1),?_,?_⟩
                  · simp only [AV.rel];exact ⟨b,d,c,_,_,hm,rfl,.inl rfl,fun _=>rfl,hc,hex,c0,hdo,hes⟩
                  · refine Yd hr hp hm hlive s2.os s2.tape s2.output s2.size s2.other (WF g1 s3 (YQ (by simp [his]; omega))) ?_
                    rw [Str.sub_of lo 0 (off+len) (by omega) (by omega),Str.sub_of lo (off+(len+l.length)) lo.length (by omega) (Nat.le_refl _),Str.cat_of,Str.cat_of]
                    refine ⟨_,fr,_,s3,rfl,fun j u hu=>?_,?_,g4⟩
                    · simp only [his, Nat.mul_one, Nat.add_zero, List.length_map, List.getElem?_toArray, List.drop_zero, List.take_length] at hu ⊢
                      have hto:(ccs.toList.take (d+off+len)).length=d+off+len:=by simp;omega
                      have hto2:(lo.take (off+len)).length=off+len:=by simp;omega
                      by_cases q1:j < off+len
                      · rw [List.append_assoc, List.getElem?_append_left (by omega), List.getElem?_take, if_pos q1] at hu
                        rw [List.append_assoc,List.getElem?_append_left (by omega),List.getElem?_take,if_pos (by omega)]
                        simpa using g2 j u hu
                      · rw [List.append_assoc, List.getElem?_append_right (by omega), hto2] at hu
                        rw [List.append_assoc,List.getElem?_append_right (by omega),hto]
                        by_cases q2:j - (off+len) < l.length
                        · rw [List.getElem?_append_left q2] at hu
                          rw [List.getElem?_append_left (by simp;omega),List.getElem?_map,show d+j - (d+off+len)=j - (off+len) from by omega,hu];rfl
                        · rw [List.getElem?_append_right (by omega), List.getElem?_drop] at hu
                          rw [List.getElem?_append_right (by simp;omega),List.getElem?_drop]
                          have:=g2 _ u hu
                          rw [← Array.getElem?_toList] at this
                          rw [← this];congr 1;simp;omega
                    · intro _ q hq1 hq2
                      refine g3 q hq1 ?_
                      simp [his] at hq2;omega
                · cases ee
              · cases ee
            · cases ee
        ·
          rename_i c0;rw [Qk] at c0
          simp only [Str.brec] at ee
          split at ee
          · rename_i c1; rw [Qk] at c1
            unfold Qe at c1
            split at ee
            · rename_i c2; rw [Qk] at c2
              rw [Str.sub_of lo off (off+len) (by omega) c2,Str.cat_of] at ee
              have hol:((lo.take (off+len)).drop off).length=len:=by simp;omega
              have hfirst:∀ w',w'.heap=w.heap→(Builtin.firstCells i.size len (.slice (some qa) len c)).run P w'=.ok (((lo.take (off+len)).drop off).map fun u=>Value.int .u8 u.toNat).toArray w':=by
                intro w' hw
                rcases Nat.eq_zero_or_pos len with h0 | h0
                · rw [Uz h0]
                  have:(lo.take (off+len)).drop off=[]:=List.length_eq_zero_iff.1 (by omega)
                  rw [this];rfl
                · have ho := ho (by omega)
                  subst ho
                  obtain rfl:=hodd.resolve_right (by omega)
                  refine VG hw g1 (by rw [his];simp;omega) fun j v hj=>?_
                  rw [List.getElem?_map,Option.map_eq_some_iff] at hj
                  obtain ⟨u,hu,rfl⟩:=hj
                  rw [List.getElem?_drop,List.getElem?_take] at hu
                  split at hu
                  · rw [Nat.add_assoc];exact g2 _ _ hu
                  · cases hu
              have hnew:∀ {q:AV} {h'':H},c < len+l.length→WR (.bytes e 0 false (Str.of ((lo.take (off+len)).drop off++l))) (len+l.length) 1 h=some (q,h'')→WOk P μ h w (Builtin.append_ #[t,t2] ty #[.slice (some qa) len c,vx]) q h'':=by
                intro q h'' hlt hq
                obtain ⟨cap',hcap,hrun⟩:=YE (ty:=ty) (w:=w) (sLen:=len) (sCap:=c) h1 h2 hni hi hiz rfl hfirst hS hlt (by rw [hib];omega) (by omega)
                obtain ⟨μ',q1,q2⟩:=V7 (cap:=cap') hr hq rfl rfl rfl (w':=w.drew.alloc (.cells ((((lo.take (off+len)).drop off).map fun u=>Value.int .u8 u.toNat).toArray++(l.map fun u=>Value.int .u8 u.toNat).toArray++Builtin.zeroCells z.cells (cap' - (len+l.length))) e)) rfl
                  (XX (zs:=Builtin.zeroCells z.cells (cap' - (len+l.length))) (by show (w.heap.push _)[w.heap.size]?=_;simp)) hcap (by simp [hzc];omega)
                exact ⟨_,_,μ',hrun,q1,q2⟩
              split at ee
              · rename_i cex
                exact hnew (by have:=hex cex;omega) ee
              ·
                split at ee
                · rename_i c5; rw [Nat.beq_eq] at c5
                  subst c5
                  split at ee
                  · rename_i c4; rw [Nat.beq_eq] at c4
                    subst c4
                    have hput:∃ h1',h.put id .dead=some h1'∧WR (.bytes bt (DR fz off) sg (Str.of ((lo.take (off+len)).drop off++l))) (len+l.length) 1 h1'=some (r,h')∧((0 < cap∧fz≤off+len)∨fz=0):=by
                      split at ee
                      · rename_i c6; rw [QH] at c6
                        split at ee
                        · rename_i c7; rw [Qk] at c7
                          split at ee
                          · exact ⟨_,‹_›,ee,.inl ⟨c6,c7⟩⟩
                          · cases ee
                        · cases ee
                      · split at ee
                        · rename_i c7; rw [Nat.beq_eq] at c7
                          split at ee
                          · exact ⟨_,‹_›,ee,.inr c7⟩
                          · cases ee
                        · cases ee
                    obtain ⟨h1',hp,hq,hfz⟩:=hput
                    have g3:=g3 (WH hr hp)
                    rcases Nat.lt_or_ge c (len+l.length) with hlt | hge
                    · obtain ⟨cap', hcap, hrun⟩ := YE (ty := ty) (w := w) (sLen := len) (sCap := c) h1 h2 hni hi hiz rfl hfirst hS hlt (by rw [hib]; omega) (by omega)
                      have p1:=Yd (w':=w) hr hp hm hlive rfl rfl rfl rfl (fun _ _=>rfl) (fun ccs t fr hh=>⟨ccs,t,fr,hh,rfl⟩) (k:=.dead) trivial
                      obtain ⟨μ',q1,q2⟩:=V7 (cap:=cap') p1.rel hq rfl rfl rfl (w':=w.drew.alloc (.cells ((((lo.take (off+len)).drop off).map fun u=>Value.int .u8 u.toNat).toArray++(l.map fun u=>Value.int .u8 u.toNat).toArray++Builtin.zeroCells z.cells (cap' - (len+l.length))) bt)) rfl
                        (XX (zs:=Builtin.zeroCells z.cells (cap' - (len+l.length))) (by show (w.heap.push _)[w.heap.size]?=_;simp)) hcap (by simp [hzc];omega)
                      exact ⟨_,_,μ',hrun,q1,p1.trans q2⟩
                    · have hcs := hr.cnt id b d ccs bt fr hm g1
                      have hfit:o+len+l.length≤ccs.size:=by omega
                      have hloose:∀ j,o+len≤j→j < ccs.size→¬ (fr.1≤j∧j < fr.2):=by
                        intro j hj hj'
                        rcases hfz with ⟨h0,h1⟩ | h0
                        · have ho:=ho h0;exact g3 j (by omega) hj'
                        · exact g3 j (by omega) hj'
                      obtain ⟨w',s1,s2,s3⟩:=Zx (P:=P) b (o+len * i.size) bt fr (l.map fun u=>Value.int .u8 u.toNat) 0 w ccs g1 (by simp [his];omega) (fun j hj hj'=>by simp [his] at hj hj';exact hloose j (by omega) (by omega)) (by
                        intro v hv;rw [List.mem_map] at hv;obtain ⟨u,_,rfl⟩:=hv;rfl)
                      obtain rfl:=hodd.resolve_right (by omega)
                      have hrun:=Z0 (ty:=ty) (w':=w') (qa:=⟨b,o,none⟩) h1 h2 hni hi hS hge (by rw [ZM];simpa using s1)
                      unfold WR at hq
                      split at hq
                      · rename_i n h2' hpush
                        injection hq with hq;injection hq with e1 e2;subst e1 e2
                        have hblk:BlkRel (upd μ h.next (b,o) (μ.sz id)) w' b o (.bytes bt (DR fz off) sg (Str.of ((lo.take (off+len)).drop off++l))):=by
                          refine ⟨_,fr,_,s3,rfl,fun j u hu=>?_,?_,?_⟩
                          · simp only [his, Nat.mul_one, Nat.add_zero, List.length_map, List.getElem?_toArray]
                            have hto:(ccs.toList.take (o+len)).length=o+len:=by simp;omega
                            by_cases q1:j < len
                            · rw [List.getElem?_append_left (by omega), List.getElem?_drop, List.getElem?_take, if_pos (by omega)] at hu
                              have ho:=ho (by omega)
                              subst ho
                              rw [List.append_assoc,List.getElem?_append_left (by omega),List.getElem?_take,if_pos (by omega)]
                              have:=g2 _ u hu
                              rw [← Array.getElem?_toList] at this
                              rw [← this];congr 1;omega
                            · rw [List.getElem?_append_right (by omega), hol] at hu
                              have hjl:j - len < l.length:=(List.getElem?_eq_some_iff.1 hu).1
                              rw [List.append_assoc,List.getElem?_append_right (by omega),hto,List.getElem?_append_left (by simp;omega),List.getElem?_map,show o+j - (o+len)=j - len from by omega,hu];rfl
                          · intro _ q hq1 hq2
                            rw [← YQ (by simp [his];omega)] at hq2
                            have hq1:o+(fz - off)≤q:=Nat.le_trans (Nat.add_le_add_left (QbJ fz off) o) hq1
                            rcases hfz with ⟨h0,_⟩ | h0
                            · have ho:=ho h0;exact g3 q (by omega) hq2
                            · exact g3 q (by omega) hq2
                          · intro hsg
                            rcases g4 hsg with h0 | h0
                            · exact .inl h0
                            · right
                              refine ⟨fzSub_pos h0.1,Nat.le_trans ?_ (Nat.add_le_add_left (QbJ fz off) o)⟩
                              have h0:=h0.2
                              rcases hfz with ⟨h00,_⟩ | h00
                              · have ho:=ho h00;omega
                              · omega
                        obtain ⟨rfl,hpost⟩:=Dz hr hp hpush hm hlive s2 (WF g1 s3 (YQ (by simp [his];omega))) hblk
                        refine ⟨_,w',_,hrun,?_,hpost⟩
                        simp only [AV.rel]
                        exact ⟨b,o,c,o,_,Ze _ _ _ _,rfl,.inl rfl,fun _=>rfl,hge,fun h=>(by cases h),Nat.le_refl _,Nat.le_refl _,by rw [UW];omega⟩
                      · cases hq
                  · cases ee
                · cases ee
            · cases ee
          · cases ee
      · cases ee
    · cases ee
end
end Go.Am
namespace Go.Am
open Go
section
variable {P:Program} {T:Ty} (hT:YN P T) {μ:Mu}
theorem Ke {as:List AV} {vs:List Value} (h:Wy as=true) (hr:AV.relL μ as vs):∀ v∈vs,v.oneCell'=true:=by
  intro v hv
  obtain ⟨j,hj⟩:=List.getElem?_of_mem hv
  have hj':j < as.length:=by have:=(List.getElem?_eq_some_iff.1 hj).1;have:=AV.relL_length hr;omega
  obtain ⟨v',hv',hvr⟩:=AV.relL_get hr j _ (List.getElem?_eq_getElem hj')
  rw [hj] at hv';injection hv' with hv';subst hv'
  exact Qc4 (Kf h _ (List.getElem_mem hj')) hvr
include hT in
theorem appendC_ok {t t2 ty e : Nat} {s x r : AV} {vs vx : Value} {h h' : H} {w : World} (ht : (T t).kd = .slice e) (hk : (T e).kd.known = true) (hsz0 : (T e).size ≠ 0) (hby : 0 < (T e).bytes) (hzl : (T e).zero.length = (T e).size)
    (ht2:(T t2).kd=.str∨∃ e',(T t2).kd=.slice e') (hr:Rel μ h w) (ee:Jp e (T e).size (T e).bytes s x h=some (r,h')) (hs:s.rel μ vs) (hx:x.rel μ vx):WOk P μ h w (Builtin.append_ #[t,t2] ty #[vs,vx]) r h':=by
  obtain ⟨_,h1,rfl⟩:=QJ hT ht rfl
  obtain ⟨d2,h2,hd2⟩:=QJ (t:=t2) hT rfl (by rcases ht2 with h | ⟨e',h⟩ <;> rw [h] <;> rfl)
  have hni:=Qc8 (T:=T) hd2 ht2
  obtain ⟨i,z,hi,his,hib,hiz,hzr,_⟩:=(hT e hk).info
  generalize hS0:(T e).size=S at *
  generalize hB0:(T e).bytes=B at *
  have hz1:z.cells.size=S:=by have:=AV.relL_length hzr;rw [hzl] at this;simpa using this
  have hzc:∀ m,(Builtin.zeroCells z.cells m).size=m * S:=fun m=>by rw [size_zeroCells,hz1]
  unfold Jp at ee
  split at ee
  · cases ee
  · rename_i n src hsrc
    obtain ⟨news,hnr,hS⟩:=srcC_ok (P:=P) hr hsrc hx
    have hnl:news.length=n * S:=by have:=hS.size;simpa using this
    have hsl:src.length=n * S:=by rw [← hnl];exact (AV.relL_length hnr).symm
    rw [← his] at hS
    have room:∀ m:Nat,m * B≤140737488355328→m≤140737488355328:=fun m hm=>Nat.le_trans (by simpa using Nat.mul_le_mul_left m hby) hm
    split at ee
    · simp only [AV.rel] at hs; subst hs
      rw [Str.brec] at ee
      split at ee
      · rename_i c0; rw [Nat.beq_eq] at c0
        injection ee with ee;injection ee with e1 e2;subst e1 e2
        rw [c0] at hS
        exact ⟨_,w,μ,Jl h1 h2 hni hi hS,by simp [AV.rel],Post.refl hr⟩
      · rename_i c0; rw [Nat.beq_eq] at c0
        rw [Str.brec] at ee
        split at ee
        · rename_i c1; rw [Qk] at c1
          have c1:n * B≤140737488355328:=c1
          have:=room n c1
          obtain ⟨cap,hcap,hrun⟩:=YE (ty:=ty) (w:=w) (base:=none) (sLen:=0) (sCap:=0) (olds:=#[]) h1 h2 hni hi hiz rfl (fun w' _=>rfl) hS (by omega) (by rw [hib,Nat.zero_add];exact c1) (by omega)
          rw [Nat.zero_add] at hrun hcap
          obtain ⟨μ',q1,q2⟩:=V7 (cap:=cap) hr ee rfl rfl rfl (w':=w.drew.alloc (.cells (#[]++news.toArray++Builtin.zeroCells z.cells (cap - n)) e)) rfl
            (JR (zs:=Builtin.zeroCells z.cells (cap - n)) (by show (w.heap.push _)[w.heap.size]?=_;simp) (AV.relL_mono (Un _ _ fun p hm=>by have:=(hr.dom _ p.1 p.2 hm).1;omega) _ _ hnr)) (by omega)
            (by simp only [Array.size_append,hzc,List.size_toArray,hnl,List.length_nil,Nat.zero_add];rw [← Nat.add_mul];congr 1;omega)
          exact ⟨_,_,μ',hrun,q1,q2⟩
        · cases ee
    · rename_i id off len cap es ex
      simp only [AV.rel] at hs
      obtain ⟨b,d,c,o,qa,hm,rfl,hodd,ho,hc,hex,hle,hdo,hes⟩:=hs
      have hbk:=hr.blk id b d hm
      split at ee
      · rename_i bt cs hg
        rw [hg] at hbk
        obtain ⟨ccs,fr,g1,g2,g3,gmv⟩:=hbk
        simp only [seqN_eq,Nat.add_eq,Nat.mul_eq] at ee
        rw [Str.brec] at ee
        have hlive:(h.get id).live=true:=by rw [hg];rfl
        split at ee
        · rename_i c0; rw [Qk] at c0
          rw [Str.brec] at ee
          split at ee
          · rename_i c1; rw [Nat.beq_eq] at c1
            injection ee with ee;injection ee with e1 e2;subst e1 e2
            rw [c1] at hS
            refine ⟨_,w,μ,Z0 (ty:=ty) (w':=w) h1 h2 hni hi hS (by omega) ?_,?_,Post.refl hr⟩
            · have : news = [] := List.length_eq_zero_iff.1 (by rw [hnl, c1, Nat.zero_mul])
              subst this;rfl
            · simp only [AV.rel];exact ⟨b,d,c,o,qa,hm,by simp,hodd,ho,hc,hex,hle,hdo,hes⟩
          · rename_i c1; rw [Nat.beq_eq] at c1
            simp only [Str.brec] at ee
            split at ee
            · rename_i c2
              split at ee
              · rename_i cs' hp'
                split at ee
                · rename_i h1' hp
                  injection ee with ee;injection ee with e1 e2;subst e1 e2
                  have g3:=g3 (WH hr hp)
                  have ho:=ho (by omega)
                  subst ho
                  obtain rfl:=hodd.resolve_right (by omega)
                  have hpl:off+len * S+src.length≤cs.length:=by
                    rw [Wa] at hp';split at hp'
                    · assumption
                    · cases hp'
                  have hns:0 < n * S:=Nat.mul_pos (by omega) (by omega)
                  have hfit:d+(off+len * S)+n * S≤ccs.size:=by
                    obtain ⟨v,hv,_⟩:=g2 (off+len * S+n * S - 1) _ (List.getElem?_eq_getElem (by omega))
                    have:=(Array.getElem?_eq_some_iff.1 hv).1;omega
                  obtain ⟨w',s1,s2,s3⟩:=Zx (P:=P) b (d+(off+len * S)) bt fr news 0 w ccs g1 (by omega) (fun j hj hj'=>g3 j (by omega) (by omega)) (Ke c2 hnr)
                  have s1':(storeCells ⟨b,d+off+len * i.size,none⟩ news).run P w=.ok () w':=by rw [his,Nat.add_assoc];exact s1
                  refine ⟨_,w',μ,Z0 (ty:=ty) (w':=w') h1 h2 hni hi hS (by omega) (by rw [ZM];simpa using s1'),?_,?_⟩
                  · simp only [AV.rel];exact ⟨b,d,c,_,_,hm,rfl,.inl rfl,fun _=>rfl,hc,hex,c0,hdo,hes⟩
                  · refine Yd hr hp hm hlive s2.os s2.tape s2.output s2.size s2.other (WF g1 s3 (YQ (by omega))) ?_
                    exact XV hp' g2 hnr g3 (by simpa using s3) (by omega) gmv
                · cases ee
              · cases ee
            · cases ee
        · rename_i c0; rw [Qk] at c0
          simp only [Str.brec] at ee
          split at ee
          · rename_i c1; rw [Qk] at c1
            have c1:(len+n) * B≤140737488355328:=c1
            have hroom:=room _ c1
            simp only [Vk,Uc,KL] at ee
            split at ee
            · rename_i old hold
              split at hold
              · rename_i hol
                injection hold with hold
                have hol':old.length=len * S:=by subst hold;rw [List.length_take];omega
                let olds:=(List.range (len * S)).map fun j=>ccs[d+off+j]?.getD undef
                have hvl:olds.length=len * S:=by simp [olds]
                have key:∀ j a,old[j]?=some a→∃ v,olds[j]?=some v∧ccs[d+off+j]?=some v∧AV.rel μ a v:=by
                  intro j a hj
                  have hjl:j < len * S:=by have:=(List.getElem?_eq_some_iff.1 hj).1;omega
                  subst hold
                  rw [List.getElem?_take,if_pos hjl,List.getElem?_drop] at hj
                  obtain ⟨v,hv,hvr⟩:=g2 _ _ hj
                  rw [← Nat.add_assoc] at hv
                  exact ⟨v,by simp [olds,hjl,hv],hv,hvr⟩
                have holr:AV.relL μ old olds:=AV.relL_of_get (by omega) fun j a hj=>let ⟨v,hv,_,hvr⟩:=key j a hj;⟨v,hv,hvr⟩
                have hcell:∀ j v,0 < cap→olds[j]?=some v→ccs[o+j]?=some v:=by
                  intro j v hcp hj
                  have hjl:j < len * S:=by have:=(List.getElem?_eq_some_iff.1 hj).1;omega
                  obtain ⟨v',h3,h4,_⟩:=key j _ (List.getElem?_eq_getElem (by omega))
                  rw [hj] at h3;injection h3 with h3;subst h3
                  rw [ho hcp];exact h4
                have hfirst:∀ w',w'.heap=w.heap→(Builtin.firstCells i.size len (.slice (some qa) len c)).run P w'=.ok olds.toArray w':=by
                  intro w' hw
                  rcases Nat.eq_zero_or_pos len with h0 | h0
                  · rw [Uz h0];simp [olds,h0]
                  · obtain rfl := hodd.resolve_right (by omega)
                    exact VG hw g1 (by rw [his];exact hvl) fun j v hj=>hcell j v (by omega) hj
                have hboth:AV.relL μ (old++src) (olds++news):=AV.relL_append holr hnr
                have hnew:∀ {h0:H} {q:AV} {h'':H} {mv:Bool},Post μ h w μ h0 w→c < len+n→WR (.cells mv e (old++src)) (len+n) S h0=some (q,h'')→WOk P μ h w (Builtin.append_ #[t,t2] ty #[.slice (some qa) len c,vx]) q h'':=by
                  intro h0 q h'' mv p1 hlt hq
                  obtain ⟨cap',hcap,hrun⟩:=YE (ty:=ty) (w:=w) (sLen:=len) (sCap:=c) h1 h2 hni hi hiz rfl hfirst hS hlt (by rw [hib];exact c1) (by omega)
                  obtain ⟨μ',q1,q2⟩:=V7 (cap:=cap') p1.rel hq rfl rfl rfl (w':=w.drew.alloc (.cells (olds.toArray++news.toArray++Builtin.zeroCells z.cells (cap' - (len+n))) e)) rfl
                    (JR (vs:=olds++news) (zs:=Builtin.zeroCells z.cells (cap' - (len+n))) (by show (w.heap.push _)[w.heap.size]?=_;simp) (AV.relL_mono (Un _ _ fun p hm=>by have:=(p1.rel.dom _ p.1 p.2 hm).1;omega) _ _ hboth)) hcap
                    (by simp only [Array.size_append,hzc,List.size_toArray,hnl,hvl];rw [← Nat.add_mul,← Nat.add_mul];congr 1;omega)
                  exact ⟨_,_,μ',hrun,q1,p1.trans q2⟩
                split at ee
                · rename_i cex
                  exact hnew (Post.refl hr) (by have:=hex cex;omega) ee
                · split at ee
                  · rename_i c5; rw [Nat.beq_eq] at c5
                    subst c5
                    split at ee
                    · rename_i c4; rw [Nat.beq_eq] at c4
                      subst c4
                      split at ee
                      · rename_i c6
                        split at ee
                        · rename_i h1' hp
                          have g3:=g3 (WH hr hp)
                          rcases Nat.lt_or_ge c (len+n) with hlt | hge
                          · exact hnew (Yd (w':=w) hr hp hm hlive rfl rfl rfl rfl (fun _ _=>rfl) (fun ccs t fr hh=>⟨ccs,t,fr,hh,rfl⟩) (k:=.dead) trivial) hlt ee
                          · have hcs := hr.cnt id b d ccs bt fr hm g1
                            have hmul:(len+n) * es≤c * es:=Nat.mul_le_mul_right _ hge
                            rw [Nat.add_mul] at hmul
                            have hfit:o+len * es+n * es≤ccs.size:=by omega
                            obtain ⟨w',s1,s2,s3⟩:=Zx (P:=P) b (o+len * es) bt fr news 0 w ccs g1 (by omega) (fun j hj hj'=>g3 j (by omega) (by omega)) (Ke c6 hnr)
                            have s1':(storeCells ⟨b,o+len * i.size,none⟩ news).run P w=.ok () w':=by rw [his];exact s1
                            obtain rfl:=hodd.resolve_right (by omega)
                            have hrun:=Z0 (ty:=ty) (w':=w') (qa:=⟨b,o,none⟩) h1 h2 hni hi hS hge (by rw [ZM];simpa using s1')
                            unfold WR at ee
                            split at ee
                            · rename_i m h2' hpush
                              injection ee with ee;injection ee with e1 e2;subst e1 e2
                              have hle':Le μ (upd μ h.next (b,o) (μ.sz id)):=Un _ _ fun p hm=>by have:=(hr.dom _ p.1 p.2 hm).1;omega
                              have hblk:BlkRel (upd μ h.next (b,o) (μ.sz id)) w' b o (.cells true bt (old++src)):=by
                                refine ⟨_,fr,s3,fun j a ha=>?_,?_,fun h=>by cases h⟩
                                · simp only [Nat.add_zero, List.getElem?_toArray]
                                  have hto:(ccs.toList.take (o+len * es)).length=o+len * es:=by simp;omega
                                  by_cases q1:j < len * es
                                  · rw [List.getElem?_append_left (by omega)] at ha
                                    obtain ⟨v,hv,_,hvr⟩:=key j a ha
                                    have hcp:0 < cap:=by
                                      rcases Nat.eq_zero_or_pos len with h0 | h0
                                      · rw [h0,Nat.zero_mul] at q1;omega
                                      · omega
                                    refine ⟨v,?_,AV.rel_mono hle' a v hvr⟩
                                    rw [List.append_assoc,List.getElem?_append_left (by omega),List.getElem?_take,if_pos (by omega),Array.getElem?_toList]
                                    exact hcell j v hcp hv
                                  · rw [List.getElem?_append_right (by omega), hol'] at ha
                                    obtain ⟨v,hv,hvr⟩:=AV.relL_get hnr _ _ ha
                                    have hjl:j - len * es < news.length:=(List.getElem?_eq_some_iff.1 hv).1
                                    refine ⟨v,?_,AV.rel_mono hle' a v hvr⟩
                                    rw [List.append_assoc,List.getElem?_append_right (by omega),hto,List.getElem?_append_left (by omega),show o+j - (o+len * es)=j - len * es from by omega,hv]
                                · intro _ q hq1 hq2
                                  rw [← YQ (by omega)] at hq2
                                  exact g3 q (by omega) hq2
                              obtain ⟨rfl,hpost⟩:=Dz hr hp hpush hm hlive s2 (WF g1 s3 (YQ (by omega))) hblk
                              refine ⟨_,w',_,hrun,?_,hpost⟩
                              simp only [AV.rel]
                              exact ⟨b,o,c,o,_,Ze _ _ _ _,rfl,.inl rfl,fun _=>rfl,hge,fun h=>(by cases h),Nat.le_refl _,Nat.le_refl _,by rw [UW];omega⟩
                            · cases ee
                        · cases ee
                      · cases ee
                    · cases ee
                  · cases ee
              · cases hold
            · cases ee
          · cases ee
      · cases ee
    · cases ee
end
end Go.Am
namespace Go.Am
open Go
def aToU (v:AV) (h:H):Option AV :=
  match v with
  | .nilp=>some .nilp
  | .ptr id off => match h.get id with
    | .cells _ _ cs=>Bool.rec none (some (.ptr id off)) (Nat.blt off cs.length)
    | .bytes _ _ _ s=>Bool.rec none (some (.ptr id off)) (Nat.blt off s.len)
    | _=>none
  | _=>none
def aOfU (u size:Nat) (v:AV) (h:H):Option AV :=
  match v with
  | .nilp=>some .nilp
  | .ptr id 0 => match h.get id with
    | .cells false t cs=>Bool.rec none (Bool.rec none (some (.ptr id 0)) (Nat.beq t u)) (Nat.ble size cs.length)
    | _=>none
  | _=>none
def Kh (v:AV):Option AV :=
  match v with
  | .nils=>some .nilp
  | .slice id off _ cap _ _=>Bool.rec none (some (.ptr id off)) (Nat.blt 0 cap)
  | _=>none
def QcA (e:Nat) (p n:AV) (h:H):Option (AV × H) :=
  match p,n with
  | .nilp,.int _ (.ofNat n)=>Bool.rec none (some (.str ⟨0,0⟩,h)) (Nat.beq n 0)
  | .ptr id off, .int _ (.ofNat n) => Bool.rec
    (match h.get id with
    | .bytes t fz false s=>Bool.rec none (Bool.rec none (Bool.rec none (match h.put id (.bytes t (Bool.rec (Nat.add off n) fz (Nat.ble (Nat.add off n) fz)) false s) with
        | some h'=>some (.str (s.sub off (Nat.add off n)),h')
        | none=>none) (Nat.beq t e)) (Nat.ble (Nat.add off n) s.len)) (Nat.ble n 9223372036854775807)
    | _=>none)
    (some (.str ⟨0,0⟩,h)) (Nat.beq n 0)
  | _,_=>none
section
variable {P:Program} {T:Ty} (hT:YN P T) {μ:Mu}
theorem shape?_at {w:World} {b:Nat} {ccs:Array Value} {t:TypeId} {fr:Nat × Nat} (h:w.heap[b]?=some (.cells ccs t fr)):w.shape? b=some (t,ccs.size):=by
  simp [World.shape?,h]
theorem Qa9 {w:World} {b:Nat} {ccs:Array Value} {t:TypeId} {fr:Nat × Nat} (h:w.heap[b]?=some (.cells ccs t fr)):(shape b).run P w=.ok (some (t,ccs.size)) w:=by
  show Sem.run P (.pure (w.shape? b)) w=_
  rw [shape?_at h];rfl
theorem Qbc {w:World} {b o:Nat} {ccs:Array Value} {t:TypeId} {fr:Nat × Nat} (h:w.heap[b]?=some (.cells ccs t fr)):(Conv.seenAt ⟨b,o,none⟩).run P w=.ok ⟨b,o,none⟩ w:=by
  simp [Conv.seenAt,viewAt,Qa9 h]
theorem cellsIn_run {w:World} {b:Nat} {ccs:Array Value} {t:TypeId} {fr:Nat × Nat} (h:w.heap[b]?=some (.cells ccs t fr)):(cellsIn b).run P w=.ok (some ccs.size) w:=by
  simp [cellsIn,Qa9 h]
include hT in
theorem toU_ok {s d e : TypeId} {a r : AV} {x : Value} {h : H} {w : World} (hs : (T s).kd = .ptr e) (hd : (T d).kd = .unsafe_) (hk : (T e).kd.known = true) (hz : 1 ≤ (T e).size) (hr : Rel μ h w) (ee : aToU a h = some r) (ha : AV.rel μ a x) :
    ∃ v,(convert s d x).run P w=.ok v w∧r.rel μ v:=by
  obtain ⟨_,h1,rfl⟩:=QJ hT hs rfl
  obtain ⟨_,h2,rfl⟩:=QJ hT hd rfl
  unfold aToU at ee
  split at ee
  · injection ee with ee; subst ee
    simp only [AV.rel] at ha;subst ha
    exact ⟨.pointer none,by simp [convert,run_underlying h1,run_underlying h2,Conv.unsafePointer],by simp [AV.rel]⟩
  · rename_i id off
    simp only [AV.rel] at ha
    obtain ⟨b,d',hm,rfl⟩:=ha
    have hb:=hr.blk id b d' hm
    have key:∀ {ccs:Array Value} {t:TypeId} {fr:Nat × Nat},w.heap[b]?=some (.cells ccs t fr)→d'+off < ccs.size→(convert s d (.pointer (some ⟨b,d'+off,none⟩))).run P w=.ok (.pointer (some ⟨b,d'+off,none⟩)) w:=by
      intro ccs t fr hh hlt
      have hz':¬ (T e).size=0:=by omega
      have hlt':¬ ccs.size≤d'+off:=by omega
      simp [convert,run_underlying h1,run_underlying h2,Conv.unsafePointer,Qbc hh,cellsIn_run hh,Q6 hT hk,hz',hlt']
    split at ee
    · rename_i mv t cs hc
      rw [hc] at hb
      obtain ⟨ccs,fr,e1,e2,_⟩:=hb
      rw [Str.brec] at ee
      split at ee
      · rename_i hlt; rw [QH] at hlt
        injection ee with ee;subst ee
        obtain ⟨v,hv,_⟩:=e2 off _ (List.getElem?_eq_getElem hlt)
        have:=(Array.getElem?_eq_some_iff.1 hv).1
        exact ⟨_,key e1 this,by simp only [AV.rel];exact ⟨b,d',hm,rfl⟩⟩
      · cases ee
    · rename_i t fz sg s' hc
      rw [hc] at hb
      obtain ⟨ccs,fr,l,e1,rfl,e2,_⟩:=hb
      rw [Str.brec] at ee
      split at ee
      · rename_i hlt; rw [QH] at hlt
        injection ee with ee;subst ee
        have hlt:off < l.length:=hlt
        have hv:=e2 off l[off] (by simp [hlt])
        have:=(Array.getElem?_eq_some_iff.1 hv).1
        exact ⟨_,key e1 this,by simp only [AV.rel];exact ⟨b,d',hm,rfl⟩⟩
      · cases ee
    · cases ee
  · cases ee
theorem same_self (p:Program) (t:TypeId):sameLayout p p.depth t t=true:=by
  unfold Program.depth
  rw [sameLayout]
  simp
theorem row_here (p:Program) {u:TypeId} {count i n:Nat} (hs:p.cellsOf u≠0) (h:i+n≤count):rowAt p (sameLayout p p.depth · u) p.depth u count (i * p.cellsOf u) n=true:=by
  have hd:i * p.cellsOf u / p.cellsOf u=i:=Nat.mul_div_cancel _ (by omega)
  have hm:i * p.cellsOf u % p.cellsOf u=0:=Nat.mul_mod_left _ _
  have:=same_self p u
  unfold Program.depth at *
  rw [rowAt]
  simp [hs,hd,hm,h,this]
theorem DH (p:Program) {u:TypeId} {count i n:Nat} (hs:p.cellsOf u≠0) (h:i+n≤count):liesAt p p.depth u count (i * p.cellsOf u) u n=true:=by
  have:=row_here p hs h
  have hd:p.depth=(2 * (p.types.size+Made.depth)+1)+1:=rfl
  rw [show liesAt p p.depth u count (i * p.cellsOf u) u n=liesAt p (2 * (p.types.size+Made.depth)+1+1) u count (i * p.cellsOf u) u n from rfl]
  rw [liesAt,this];simp
include hT in
theorem NU {e:TypeId} (hk:(T e).kd.known=true):P.cellsOf e=(T e).size:=by
  obtain ⟨i,z,h1,h2,_⟩:=(hT e hk).info
  simp [Program.cellsOf,h1,h2]
include hT in
theorem ofU_ok {s d e : TypeId} {a r : AV} {x : Value} {h : H} {w : World} (hs : (T s).kd = .unsafe_) (hd : (T d).kd = .ptr e) (hk : (T e).kd.known = true) (hz : 1 ≤ (T e).size) (hr : Rel μ h w) (ee : aOfU e (T e).size a h = some r) (ha : AV.rel μ a x) :
    ∃ v,(convert s d x).run P w=.ok v w∧r.rel μ v:=by
  obtain ⟨_,h1,rfl⟩:=QJ hT hs rfl
  obtain ⟨_,h2,rfl⟩:=QJ hT hd rfl
  unfold aOfU at ee
  split at ee
  · injection ee with ee; subst ee
    simp only [AV.rel] at ha;subst ha
    exact ⟨.pointer none,by simp [convert,run_underlying h1,run_underlying h2,Conv.unsafePointer],by simp [AV.rel]⟩
  · rename_i id
    simp only [AV.rel] at ha
    obtain ⟨b,d',hm,rfl⟩:=ha
    have hb:=hr.blk id b d' hm
    split at ee
    · rename_i t cs hc
      rw [hc] at hb
      obtain ⟨ccs,fr,e1,e2,_,hmv⟩:=hb
      have hd0:=hmv rfl
      subst hd0
      rw [Str.brec] at ee
      split at ee
      · rename_i hle; rw [Qk] at hle
        rw [Str.brec] at ee
        split at ee
        · rename_i ht; rw [Nat.beq_eq] at ht
          subst ht
          injection ee with ee;subst ee
          have hz':¬ (T t).size=0:=by omega
          obtain ⟨v,hv,_⟩:=e2 ((T t).size - 1) _ (List.getElem?_eq_getElem (by omega))
          have hsz:=(Array.getElem?_eq_some_iff.1 hv).1
          have hco:=NU hT hk
          have hlie:=DH P (u:=t) (count:=ccs.size / P.cellsOf t) (i:=0) (n:=1) (by omega) (by rw [hco];have:0 < ccs.size / (T t).size:=Nat.div_pos (by omega) (by omega);omega)
          rw [Nat.zero_mul] at hlie
          refine ⟨.pointer (some ⟨b,0+0,none⟩),?_,by simp only [AV.rel];exact ⟨b,0,hm,rfl⟩⟩
          simp [convert,run_underlying h1,run_underlying h2,Conv.unsafePointer,Qbc e1,Q6 hT hk,hz',variablesAt,shape?_at e1,hlie]
        · cases ee
      · cases ee
    · cases ee
  · cases ee
theorem sliceData_ok {argTypes : Array TypeId} {ty : TypeId} {a r : AV} {x : Value} (h : Kh a = some r) (ha : AV.rel μ a x) : ∃ v, Yld P (Builtin.unsafeSliceData_ argTypes ty #[x]) v ∧ r.rel μ v := by
  unfold Kh at h
  split at h
  · injection h with h; subst h
    simp only [AV.rel] at ha;subst ha
    exact ⟨.pointer none,fun w=>rfl,by simp [AV.rel]⟩
  · rename_i id off len cap es ex
    rw [Str.brec] at h
    split at h
    · rename_i hc; rw [QH] at hc
      injection h with h;subst h
      simp only [AV.rel] at ha
      obtain ⟨b,d,c,o,q,hm,rfl,hodd,ho,hle,_⟩:=ha
      have ho:=ho hc
      subst ho
      obtain rfl:=hodd.resolve_right (by omega)
      have hc':¬ c=0:=by omega
      exact ⟨.pointer (some ⟨b,d+off,none⟩),fun w=>by
        have e:Builtin.unsafeSliceData_ argTypes ty #[.slice (some ⟨b,d+off,none⟩) len c]=(if c≠0 then pure (.pointer (some ⟨b,d+off,none⟩)) else _):=rfl
        rw [e,if_pos hc'];rfl,by simp only [AV.rel];exact ⟨b,d,hm,rfl⟩⟩
    · cases h
  · cases h
theorem JN {w:World} {b:Nat}:∀ (us:List UInt8) (o:Nat) (acc:ByteArray),(∀ j u,us[j]?=some u→w.cell? ⟨b,o+j,none⟩=some (.int .u8 u.toNat)) →
    (loadBytes ⟨b,o,none⟩ acc us.length).run P w=.ok ⟨(acc.data.toList++us).toArray⟩ w
  | [],o,acc,_=>by simp [loadBytes]
  | u :: us, o, acc, h => by
    have h0:=h 0 u rfl
    rw [Nat.add_zero] at h0
    have ih:=JN us (o+1) (acc.push u) (fun j u' hj=>by have:=h (j+1) u' (by simpa using hj);rwa [show o+1+j=o+(j+1) from by omega])
    simp only [List.length_cons,loadBytes,Sem.run_bind]
    have hl:(load ⟨b,o,none⟩).run P w=.ok (.int .u8 u.toNat) w:=by simp [h0]
    rw [hl]
    simp only [Result.andThen_ok,ZM,Int.toNat_natCast]
    have hu:(u.toNat).toUInt8=u:=by simp
    rw [hu,ih]
    simp
def frz (fr:Nat × Nat) (o n:Nat):Nat × Nat:=if fr.1 == fr.2 then (o,o+n) else (min fr.1 o,max fr.2 (o+n))
theorem DS {w:World} {b o n:Nat} {ccs:Array Value} {t:TypeId} {fr:Nat × Nat} (hn:n≠0) (h:w.heap[b]?=some (.cells ccs t fr)) :
    (w.freeze ⟨b,o,none⟩ n).heap[b]?=some (.cells ccs t (frz fr o n))∧(∀ c,c≠b→(w.freeze ⟨b,o,none⟩ n).heap[c]?=w.heap[c]?)∧(w.freeze ⟨b,o,none⟩ n).heap.size=w.heap.size ∧
    (w.freeze ⟨b,o,none⟩ n).os=w.os∧(w.freeze ⟨b,o,none⟩ n).tape=w.tape∧(w.freeze ⟨b,o,none⟩ n).output=w.output:=by
  unfold World.freeze
  rw [if_neg hn]
  obtain ⟨lo,hi⟩:=fr
  refine ⟨?_,fun c hc=>?_,?_,rfl,rfl,rfl⟩
  · simp [Array.getElem?_modify,h,frz]
  · simp only [Array.getElem?_modify]
    rw [if_neg (fun e=>hc e.symm)]
  · simp
include hT in
theorem unStr_ok {pt nt ty e : TypeId} {p n r : AV} {x y : Value} {h h' : H} {w : World} (hk : (T pt).kd = .ptr e) (hu : (T e).kd = .int .u8) (hs : (T e).size = 1) (hr : Rel μ h w) (ee : QcA e p n h = some (r, h')) (hp : AV.rel μ p x) (hn : AV.rel μ n y) :
    WOk P μ h w (Builtin.unsafeString_ #[pt,nt] ty #[x,y]) r h':=by
  obtain ⟨_,h1,rfl⟩:=QJ hT hk rfl
  have empty:∀ {h':H} {r:AV} {q:Option Addr} {k:IntKind},some (AV.str ⟨0,0⟩,h)=some (r,h')→WOk P μ h w (Builtin.unsafeString_ #[pt,nt] ty #[.pointer q,.int k 0]) r h':=by
    intro h' r q k ee
    injection ee with ee;injection ee with e1 e2;subst e1 e2
    refine ⟨.string .empty,w,μ,?_,by simp only [AV.rel];exact ⟨_,rfl,rfl⟩,Post.refl hr⟩
    cases q <;> rfl
  unfold QcA at ee
  split at ee
  · rename_i k n
    rw [Str.brec] at ee
    split at ee
    · rename_i hz; rw [Nat.beq_eq] at hz; subst hz
      simp only [AV.rel] at hp hn;subst hp hn
      exact empty ee
    · cases ee
  · rename_i id off k n
    simp only [AV.rel] at hp hn
    obtain ⟨b,d,hm,rfl⟩:=hp
    subst hn
    rw [Str.brec] at ee
    split at ee
    · rename_i hz; rw [Nat.beq_eq] at hz; subst hz
      exact empty ee
    · rename_i hz
      have hz:n≠0:=fun e=>hz (by subst e;rfl)
      have hb:=hr.blk id b d hm
      split at ee
      · rename_i t fz s hc
        have hlive:(h.get id).live=true:=by rw [hc];rfl
        rw [hc] at hb
        obtain ⟨ccs,fr,l,e1,rfl,e2,e3,e4⟩:=hb
        rw [Str.brec] at ee
        split at ee
        · rename_i c1; rw [Qk] at c1
          rw [Str.brec] at ee
          split at ee
          · rename_i c2; rw [Qk] at c2
            have c2:off+n≤l.length:=c2
            rw [Str.brec] at ee
            split at ee
            · rename_i c3; rw [Nat.beq_eq] at c3; subst c3
              split at ee
              · rename_i h1' hput
                injection ee with ee;injection ee with q1 q2;subst q1 q2
                obtain ⟨f1,f2,f3,f4,f5,f6⟩:=DS (o:=d+off) hz e1
                have hfz:(Bool.rec (Nat.add off n) fz (Nat.ble (Nat.add off n) fz):Nat)=max fz (off+n):=by
                  rw [Str.brec];split
                  · rename_i q;rw [Qk] at q;have:off+n≤fz:=q;omega
                  · rename_i q;rw [Qk] at q;have:¬ off+n≤fz:=q;show off+n=_;omega
                rw [hfz] at hput
                have hlist:((l.take (off+n)).drop off).length=n:=by simp;omega
                have hlast:d+off+n≤ccs.size:=by
                  have hlt:off+n - 1 < l.length:=by omega
                  have hv:=e2 (off+n - 1) l[off+n - 1] (by simp [hlt])
                  have:=(Array.getElem?_eq_some_iff.1 hv).1;omega
                have hco:P.cellsOf t=1:=(NU hT (by rw [hu];rfl)).trans hs
                have hlie:=DH P (u:=t) (count:=ccs.size / P.cellsOf t) (i:=d+off) (n:=n) (by omega) (by rw [hco,Nat.div_one];omega)
                rw [hco,Nat.div_one,Nat.mul_one] at hlie
                have hload:=JN (P:=P) (w:=w) (b:=b) ((l.take (off+n)).drop off) (d+off) .empty (fun j u hj=>by
                  rw [List.getElem?_drop,List.getElem?_take] at hj
                  split at hj
                  · rw [Nat.add_assoc];exact JF e1 (e2 _ _ hj)
                  · cases hj)
                rw [hlist] at hload
                refine ⟨.string ⟨((l.take (off+n)).drop off).toArray⟩,w.freeze ⟨b,d+off,none⟩ n,μ,?_,?_,?_⟩
                · have n1 : ¬ ((n : Int) < 0) := by omega
                  have n2:¬ (IntKind.i64.max < (n:Int)):=by
                    have:IntKind.i64.max=9223372036854775807:=by decide
                    rw [this];omega
                  have hz':¬ ((n:Int)=0):=by omega
                  have hfr:∀ w:World,(freeze ⟨b,d+off,none⟩ n).run P w=.ok () (w.freeze ⟨b,d+off,none⟩ n):=fun w=>rfl
                  show (asInt (.int k (Int.ofNat n)) >>= _:Sem Value).run P w=_
                  simp [asInt,asIntOf,n1,hz,elemOf,run_underlying h1,variablesAt,shape?_at e1,hco,hlie,hload,hfr]
                  omega
                · simp only [AV.rel]
                  exact ⟨_,rfl,by show Str.sub (Str.of l) off (off+n)=_;rw [Str.sub_of _ _ _ (by omega) c2]⟩
                · refine Yd hr hput hm hlive f4 f5 f6 f3 f2 (fun ccs' t' fr' hh => by
                    rw [f1] at hh;injection hh with hh;injection hh with g1 g2 g3;subst g1
                    exact ⟨_,_,_,e1,rfl⟩) ?_
                  have hold:=e4 rfl
                  have hhi:(frz fr (d+off) n).2≤d+max fz (off+n):=by
                    unfold frz
                    by_cases hq:fr.1 == fr.2
                    · rw [if_pos hq];show d+off+n≤_;omega
                    · rw [if_neg hq]
                      rcases hold with q | q
                      · exact absurd (by simpa using q) hq
                      · have q:=q.2;show max fr.2 (d+off+n)≤_;omega
                  exact ⟨ccs,_,l,f1,rfl,e2,fun o ho1 ho2 hq=>by omega,fun _=>.inr ⟨by show 0 < max fz (off+n);omega,hhi⟩⟩
              · cases ee
            · cases ee
          · cases ee
        · cases ee
      · cases ee
  · cases ee
include hT in
theorem mark_ok {s e:TypeId} {id off len cap es:Nat} {ex:Bool} {x:Value} {t0:Nat} {str:Str} {h h':H} {w:World} (hs:(T s).kd=.slice e) (hk:(T e).kd=.int .u8) (hR:Rel μ h w) (hg:h.get id=.bytes t0 0 false str)
    (hput:h.put id (.bytes t0 0 true str)=some h') (hcap:0 < cap) (ha:AV.rel μ (.slice id off len cap es ex) x):∃ w',(convert s s x).run P w=.ok x w'∧Post μ h w μ h' w':=by
  obtain ⟨d,h1,rfl⟩:=QJ hT hs rfl
  obtain ⟨d,h3,rfl⟩:=QJ hT hk rfl
  simp only [AV.rel] at ha
  obtain ⟨b,dd,c,o,q,hm,rfl,hodd,_,hcc,_⟩:=ha
  obtain rfl:=hodd.resolve_right (by omega)
  have hb:=hR.blk id b dd hm
  rw [hg] at hb
  obtain ⟨ccs,fr,l,e1,rfl,e2,e3,e4⟩:=hb
  obtain ⟨f1,f2,f3,f4,f5,f6⟩:=DS (o:=ccs.size) (n:=1) (by omega) e1
  refine ⟨w.freeze ⟨b,ccs.size,none⟩ 1,?_,?_⟩
  · have hfr : ∀ w : World, (freeze ⟨b, ccs.size, none⟩ 1).run P w = .ok () (w.freeze ⟨b, ccs.size, none⟩ 1) := fun w => rfl
    simp only [convert,Sem.run_bind,run_underlying h1,run_underlying h3,Result.andThen_ok,beq_self_eq_true,markStringish,run_shape,shape?_at e1,hfr,Sem.run_pure]
  · refine Yd hR hput hm (by rw [hg]; rfl) f4 f5 f6 f3 f2 (fun ccs' t' fr' hh => by
      rw [f1] at hh;injection hh with hh;injection hh with g1 g2 g3;subst g1
      exact ⟨_,_,_,e1,rfl⟩) ?_
    have hq:(fr.1 == fr.2)=true:=by
      rcases e4 rfl with q | q
      · simpa using q
      · omega
    refine ⟨ccs,_,l,f1,rfl,e2,fun _ o ho1 ho2 hq'=>?_,fun h=>by cases h⟩
    unfold frz at hq'
    rw [if_pos hq] at hq'
    have:ccs.size≤o:=hq'.1
    omega
end
def QcB (s x:AV) (h:H):Option (AV × H) :=
  match D8 x h with
  | none=>none
  | some src => match Nat.beq src.len 0 with
    | true => match s with
      | .slice _ _ _ _ _ _=>some (.int .i64 (Int.ofNat 0),h)
      | .nils=>some (.int .i64 (Int.ofNat 0),h)
      | _=>none
    | false => match s with
      | .slice id off len _ _ _ => match h.get id with
        | .bytes t fz sg str => match Bool.and (Nat.blt 0 src.len) (Bool.and (Nat.ble src.len len) (Bool.and (Nat.ble (Nat.add off src.len) str.len) (Nat.ble fz off))) with
          | true => match h.put id (.bytes t fz sg (Str.cat (Str.cat (str.sub 0 off) src) (str.sub (Nat.add off src.len) str.len))) with
            | some h1=>some (.int .i64 (Int.ofNat src.len),h1)
            | none=>none
          | false=>none
        | _=>none
      | _=>none
section
variable {P:Program} {T:Ty} (hT:YN P T) {μ:Mu}
include hT in
theorem copyB_ok {t t2 ty e : Nat} {s x r : AV} {vs vx : Value} {h h' : H} {w : World} (ht : (T t).kd = .slice e) (hk : (T e).kd = .int .u8) (hsz : (T e).size = 1)
    (hr:Rel μ h w) (ee:QcB s x h=some (r,h')) (hs:s.rel μ vs) (hx:x.rel μ vx):WOk P μ h w (Builtin.copy_ #[t,t2] ty #[vs,vx]) r h':=by
  obtain ⟨_,h1,rfl⟩:=QJ hT ht rfl
  obtain ⟨i,z,hi,his,_⟩:=(hT e (by rw [hk];rfl)).info
  rw [hsz] at his
  unfold QcB at ee
  split at ee
  · cases ee
  · rename_i src hsrc
    obtain ⟨l,rfl,hS⟩:=QcO (P:=P) hr hsrc hx
    rw [← his] at hS
    have hn:(Str.of l).len=l.length:=rfl
    split at ee
    · rename_i h0
      have h0:(Str.of l).len=0:=by rw [← Nat.beq_eq];exact h0
      rw [hn] at h0
      have hf:=hS.cells w rfl
      have hmin:∀ n,Nat.min l.length n=0:=fun n=>by rw [h0];exact Nat.zero_min n
      split at ee
      · injection ee with ee; injection ee with e1 e2; subst e1 e2
        simp only [AV.rel] at hs
        obtain ⟨b,d,c,o,q,hm,rfl,_⟩:=hs
        refine ⟨.int .i64 0,w,μ,?_,by simp only [AV.rel];rfl,Post.refl hr⟩
        have hl:l=[]:=List.eq_nil_of_length_eq_zero h0
        subst hl
        simp only [List.length_nil,List.map_nil] at hf hS
        simp [Builtin.copy_,run_underlying h1,sizeOf,typeInfo,hi,hS.len,hf,goInt,storeCells]
      · injection ee with ee; injection ee with e1 e2; subst e1 e2
        simp only [AV.rel] at hs
        subst hs
        refine ⟨.int .i64 0,w,μ,?_,by simp only [AV.rel];rfl,Post.refl hr⟩
        have hl:l=[]:=List.eq_nil_of_length_eq_zero h0
        subst hl
        simp only [List.length_nil,List.map_nil] at hf hS
        simp [Builtin.copy_,run_underlying h1,sizeOf,typeInfo,hi,hS.len,hf,goInt]
      · cases ee
    split at ee
    · rename_i id off len cap es ex
      simp only [AV.rel] at hs
      obtain ⟨b,d,c,o,q,hm,rfl,hodd,ho,hc,hex,hle,hdo,hes⟩:=hs
      have hbk:=hr.blk id b d hm
      split at ee
      · rename_i bt fz sg str hg
        rw [hg] at hbk
        obtain ⟨ccs,fr,lo,g1,rfl,g2,g3,g4⟩:=hbk
        have hlo:(Str.of lo).len=lo.length:=rfl
        have hlive:(h.get id).live=true:=by rw [hg];rfl
        split at ee
        · rename_i hcnd
          have hcnd:(Nat.blt 0 (Str.of l).len && (Nat.ble (Str.of l).len len && (Nat.ble (Nat.add off (Str.of l).len) (Str.of lo).len && Nat.ble fz off)))=true:=hcnd
          simp only [Bool.and_eq_true,QH,Qk,hn,hlo,Nat.add_eq] at hcnd
          obtain ⟨c0,c1,c2,c3⟩:=hcnd
          split at ee
          · rename_i h1' hp
            injection ee with ee;injection ee with e1 e2;subst e1 e2
            have g3:=g3 (WH hr hp)
            have ho:=ho (by omega)
            subst ho
            obtain rfl:=hodd.resolve_right (by omega)
            have hfit:d+(off+l.length)≤ccs.size:=by
              have hlast:=g2 (off+l.length - 1) _ (List.getElem?_eq_getElem (by omega))
              have:=(Array.getElem?_eq_some_iff.1 hlast).1;omega
            obtain ⟨w',s1,s2,s3⟩:=Zx (P:=P) b (d+off) bt fr (l.map fun u=>Value.int .u8 u.toNat) 0 w ccs g1 (by simp;omega) (fun j hj hj'=>by simp at hj hj';exact g3 j (by omega) (by omega)) (by
              intro v hv;rw [List.mem_map] at hv;obtain ⟨u,_,rfl⟩:=hv;rfl)
            refine ⟨.int .i64 l.length,w',μ,?_,by simp only [AV.rel,hn];rfl,?_⟩
            · have hf := hS.cells w rfl
              have hmin:Nat.min l.length len=l.length:=Nat.min_eq_left c1
              simp [Builtin.copy_,run_underlying h1,sizeOf,typeInfo,hi,hS.len,hmin,hf,s1,goInt]
            · refine Yd hr hp hm hlive s2.os s2.tape s2.output s2.size s2.other (WF g1 s3 (YQ (by simp; omega))) ?_
              simp only [hn,hlo,Nat.add_eq]
              rw [Str.sub_of lo 0 off (by omega) (by omega),Str.sub_of lo (off+l.length) lo.length (by omega) (Nat.le_refl _),Str.cat_of,Str.cat_of]
              refine ⟨_,fr,_,s3,rfl,fun j u hu=>?_,?_,g4⟩
              · simp only [Nat.add_zero, List.length_map, List.getElem?_toArray, List.drop_zero, List.take_length] at hu ⊢
                have hto:(ccs.toList.take (d+off)).length=d+off:=by simp;omega
                have hto2:(lo.take off).length=off:=by simp;omega
                by_cases q1:j < off
                · rw [List.append_assoc, List.getElem?_append_left (by omega), List.getElem?_take, if_pos q1] at hu
                  rw [List.append_assoc,List.getElem?_append_left (by omega),List.getElem?_take,if_pos (by omega)]
                  simpa using g2 j u hu
                · rw [List.append_assoc, List.getElem?_append_right (by omega), hto2] at hu
                  rw [List.append_assoc,List.getElem?_append_right (by omega),hto]
                  by_cases q2:j - off < l.length
                  · rw [List.getElem?_append_left q2] at hu
                    rw [List.getElem?_append_left (by simp;omega),List.getElem?_map,show d+j - (d+off)=j - off from by omega,hu];rfl
                  · rw [List.getElem?_append_right (by omega), List.getElem?_drop] at hu
                    rw [List.getElem?_append_right (by simp;omega),List.getElem?_drop]
                    have:=g2 _ u hu
                    rw [← Array.getElem?_toList] at this
                    rw [← this];congr 1;simp;omega
              · intro _ q hq1 hq2
                refine g3 q hq1 ?_
                simp at hq2;omega
          · cases ee
        · cases ee
      · cases ee
    · cases ee
end
def QaW (S:Nat) (zero:List AV) (s:AV) (h:H):Option (AV × H) :=
  match s with
  | .nils=>some (.tuple [],h)
  | .slice id off len _ es _ => match Nat.beq len 0 with
    | true=>some (.tuple [],h)
    | false => match h.get id with
      | .cells mv t cs => match Bool.and (Nat.beq es S) (Wy (Ua len zero)) with
        | true => match Q7 off (Ua len zero) cs with
          | some cs' => match h.put id (.cells mv t cs') with
            | some h1=>some (.tuple [],h1)
            | none=>none
          | none=>none
        | false=>none
      | _=>none
  | _=>none
section
variable {P:Program} {T:Ty} (hT:YN P T) {μ:Mu}
theorem JQ {t e:TypeId} {ty:TypeId} {b:Option Addr} {c:Nat} {w:World} (h1:∀ w:World,(underlying t).run P w=.ok (.slice e) w):(Builtin.clear_ #[t] ty #[.slice b 0 c]).run P w=.ok (.tuple #[]) w:=by
  cases b <;> simp [Builtin.clear_,h1]
include hT in
theorem clearS_ok {t ty e : Nat} {s r : AV} {vs : Value} {h h' : H} {w : World} (ht : (T t).kd = .slice e) (hk : (T e).kd.known = true) (hsz0 : (T e).size ≠ 0) (hzl : (T e).zero.length = (T e).size)
    (hr:Rel μ h w) (ee:QaW (T e).size (T e).zero s h=some (r,h')) (hs:s.rel μ vs):WOk P μ h w (Builtin.clear_ #[t] ty #[vs]) r h':=by
  obtain ⟨_,h1,rfl⟩:=QJ hT ht rfl
  obtain ⟨i,z,hi,his,hib,hiz,hzr,_⟩:=(hT e hk).info
  have hz1:z.cells.size=(T e).size:=by have:=AV.relL_length hzr;rw [hzl] at this;simpa using this
  have htup:(AV.tuple []).rel μ (.tuple #[]):=by simp only [AV.rel];exact ⟨#[],rfl,AV.relL_nil.2 rfl⟩
  unfold QaW at ee
  split at ee
  · injection ee with ee; injection ee with e1 e2; subst e1 e2
    simp only [AV.rel] at hs;subst hs
    exact ⟨_,w,μ,JQ (e:=e) (fun w=>by simp [run_underlying h1]),htup,Post.refl hr⟩
  · rename_i id off len cap es ex
    simp only [AV.rel] at hs
    obtain ⟨b,d,c,o,qa,hm,rfl,hodd,ho,hc,hex,hle,hdo,hes⟩:=hs
    split at ee
    · rename_i c0
      rw [Nat.beq_eq] at c0;subst c0
      injection ee with ee;injection ee with e1 e2;subst e1 e2
      exact ⟨_,w,μ,JQ (e:=e) (fun w=>by simp [run_underlying h1]),htup,Post.refl hr⟩
    · rename_i c0
      have c0:len≠0:=fun e=>by rw [e] at c0;cases c0
      have hbk:=hr.blk id b d hm
      split at ee
      · rename_i mv bt cs hg
        rw [hg] at hbk
        obtain ⟨ccs,fr,g1,g2,g3,gmv⟩:=hbk
        have hlive:(h.get id).live=true:=by rw [hg];rfl
        split at ee
        · rename_i c1
          have c1:(Nat.beq es (T e).size && Wy (Ua len (T e).zero))=true:=c1
          rw [Bool.and_eq_true,Nat.beq_eq] at c1
          obtain ⟨c1,c2⟩:=c1
          split at ee
          · rename_i cs' hp'
            split at ee
            · rename_i h1' hp
              injection ee with ee;injection ee with e1 e2;subst e1 e2
              have g3:=g3 (WH hr hp)
              have ho:=ho (by omega)
              subst ho
              obtain rfl:=hodd.resolve_right (by omega)
              have hrel:AV.relL μ (Ua len (T e).zero) (Builtin.zeroCells z.cells len).toList:=by
                have:=Xg (n:=len) (AV.relL_mono (GE (μ:=μ)) _ _ hzr) hz1 hsz0
                rw [← hz1] at this
                exact this
              obtain ⟨news,hnews⟩:∃ news,news=(Builtin.zeroCells z.cells len).toList:=⟨_,rfl⟩
              rw [← hnews] at hrel
              have hnl:news.length=(Ua len (T e).zero).length:=AV.relL_length hrel
              have hpl:off+(Ua len (T e).zero).length≤cs.length:=by
                rw [Wa] at hp';split at hp'
                · assumption
                · cases hp'
              have hpos:0 < news.length:=by
                rw [hnews];simp [Builtin.zeroCells,hz1]
                exact Nat.mul_pos (by omega) (by omega)
              have hfit:d+off+news.length≤ccs.size:=by
                obtain ⟨v,hv,_⟩:=g2 (off+news.length - 1) _ (List.getElem?_eq_getElem (by omega))
                have:=(Array.getElem?_eq_some_iff.1 hv).1;omega
              obtain ⟨w',s1,s2,s3⟩:=Zx (P:=P) b (d+off) bt fr news 0 w ccs g1 (by omega) (fun j hj hj'=>g3 j (by omega) (by omega)) (Ke c2 hrel)
              have hzv:∀ w,(zeroValue e).run P w=.ok z w:=fun w=>by simp [zeroValue,typeInfo,hi,hiz]
              refine ⟨.tuple #[],w',μ,?_,htup,?_⟩
              · obtain ⟨n', rfl⟩ : ∃ n', len = n' + 1 := ⟨len - 1, by omega⟩
                have s1:(storeCells ⟨b,d+off,none⟩ (Builtin.zeroCells z.cells (n'+1)).toList).run P w=.ok () w':=by rw [← hnews];exact s1
                simp [Builtin.clear_,run_underlying h1,hzv,s1]
              · refine Yd hr hp hm hlive s2.os s2.tape s2.output s2.size s2.other (WF g1 s3 (YQ (by omega))) ?_
                exact XV hp' g2 hrel g3 (by simpa using s3) (by omega) gmv
            · cases ee
          · cases ee
        · cases ee
      · cases ee
  · cases ee
end
def QdZ (a b:AV):Option AV :=
  match a,b with
  | .int k x,.int _ y=>some (.int k (Bool.rec x y (ltI y x)))
  | .str x,.str y=>some (.str (Bool.rec x y (y.lt x)))
  | _,_=>none
def aMax (a b:AV):Option AV :=
  match a,b with
  | .int k x,.int _ y=>some (.int k (Bool.rec x y (ltI x y)))
  | .str x,.str y=>some (.str (Bool.rec x y (x.lt y)))
  | _,_=>none
def Qfi (v:AV):Option AV :=
  match v with
  | .nils=>some (.int .i64 (Int.ofNat 0))
  | .slice _ _ _ cap _ true=>some (.int .i64 (Int.ofNat cap))
  | _=>none
def aBiP (T:Ty) (b:Builtin) (as:List AV) (ts:List Nat):Option AV :=
  match b with
  | .unsafeSliceData => match as with
    | [x]=>Kh x
    | _=>none
  | .min => match as with
    | [x,y]=>QdZ x y
    | _=>none
  | .max => match as with
    | [x,y]=>aMax x y
    | _=>none
  | .cap => match as, ts with
    | [x], [t] => match (T t).kd with
      | .slice _=>Qfi x
      | _=>none
    | _,_=>none
  | _=>none
def aBiW (T:Ty) (b:Builtin) (as:List AV) (ts:List Nat) (h:H):Option (AV × H) :=
  match b with
  | .unsafeString => match as, ts with
    | [p, n], [t, _] => match (T t).kd with
      | .ptr e => match (T e).kd.isU8 && Nat.beq (T e).size 1 with
        | true=>QcA e p n h
        | false=>none
      | _=>none
    | _,_=>none
  | .copy => match as, ts with
    | [s, x], [t, _] => match (T t).kd with
      | .slice e => match (T e).kd.isU8 && Nat.beq (T e).size 1 with
        | true=>QcB s x h
        | false=>none
      | _=>none
    | _,_=>none
  | .clear => match as, ts with
    | [s], [t] => match (T t).kd with
      | .slice e => match Bool.and (T e).kd.known (Bool.and (Bool.not (Nat.beq (T e).size 0)) (Nat.beq (T e).zero.length (T e).size)) with
        | true=>QaW (T e).size (T e).zero s h
        | false=>none
      | _=>none
    | _,_=>none
  | _=>none
def biC:Builtin→Nat
  | .len=>0
  | .unsafeSliceData=>0
  | .min=>0
  | .max=>0
  | .cap=>0
  | _=>3
section
variable {P:Program} {T:Ty} {μ:Mu}
theorem min2_ok {a b r:AV} {x y:Value} (h:QdZ a b=some r) (ha:AV.rel μ a x) (hb:AV.rel μ b y):∃ v,Yld P (Builtin.min2 x y) v∧r.rel μ v:=by
  unfold QdZ at h
  split at h
  · rename_i k x' k' y'
    injection h with h;subst h
    simp only [AV.rel] at ha hb;subst ha hb
    refine ⟨.int k (if y' < x' then y' else x'),fun w=>rfl,?_⟩
    rw [Str.brec,Vm];simp only [decide_eq_true_eq];exact Zk
  · rename_i s t
    injection h with h;subst h
    obtain ⟨v,h1,h2⟩:=QaQ (P:=P) (op:=.leq) (t:=0) (r:=.bool (Bool.not (t.lt s))) (by unfold QbZ;rfl) ha hb
    simp only [AV.rel] at h2;subst h2
    simp only [AV.rel] at ha hb
    obtain ⟨xs,rfl,hs⟩:=ha
    obtain ⟨ys,rfl,ht⟩:=hb
    refine ⟨.string (if t.lt s then ys else xs),fun w=>?_,?_⟩
    · have h1' : (Op.stringOp .leq xs ys).run P w = .ok (.bool (!(t.lt s))) w := h1 w
      simp only [Builtin.min2,Sem.run_bind,h1',Result.andThen_ok]
      cases t.lt s <;> rfl
    · rw [Str.brec]
      simp only [AV.rel]
      cases t.lt s
      · exact ⟨xs,rfl,hs⟩
      · exact ⟨ys,rfl,ht⟩
  · cases h
theorem max2_ok {a b r:AV} {x y:Value} (h:aMax a b=some r) (ha:AV.rel μ a x) (hb:AV.rel μ b y):∃ v,Yld P (Builtin.max2 x y) v∧r.rel μ v:=by
  unfold aMax at h
  split at h
  · rename_i k x' k' y'
    injection h with h;subst h
    simp only [AV.rel] at ha hb;subst ha hb
    refine ⟨.int k (if y' > x' then y' else x'),fun w=>rfl,?_⟩
    rw [Str.brec,Vm];simp only [decide_eq_true_eq,GT.gt];exact Zk
  · rename_i s t
    injection h with h;subst h
    obtain ⟨v,h1,h2⟩:=QaQ (P:=P) (op:=.geq) (t:=0) (r:=.bool (Bool.not (s.lt t))) (by unfold QbZ;rfl) ha hb
    simp only [AV.rel] at h2;subst h2
    simp only [AV.rel] at ha hb
    obtain ⟨xs,rfl,hs⟩:=ha
    obtain ⟨ys,rfl,ht⟩:=hb
    refine ⟨.string (if s.lt t then ys else xs),fun w=>?_,?_⟩
    · have h1' : (Op.stringOp .geq xs ys).run P w = .ok (.bool (!(s.lt t))) w := h1 w
      simp only [Builtin.max2,Sem.run_bind,h1',Result.andThen_ok]
      cases s.lt t <;> rfl
    · rw [Str.brec]
      simp only [AV.rel]
      cases s.lt t
      · exact ⟨xs,rfl,hs⟩
      · exact ⟨ys,rfl,ht⟩
  · cases h
def Qfl (P:Program) (s:Sem Next) (v:Value):Prop:=∀ w,s.run P w=.ok (.value v) w
theorem biP_ok (hT : YN P T) {b : Builtin} {as : List AV} {ts : List Nat} {ty : TypeId} {cs : Array Bool} {vs : List Value} {r : AV} (h : aBiP T b as ts = some r) (ha : AV.relL μ as vs) :
    ∃ v,Qfl P (builtin b ts.toArray ty cs vs.toArray) v∧r.rel μ v:=by
  have lft:∀ {s:Sem Value} {v:Value},Yld P s v→Qfl P (do pure (.value (← s))) v:=fun h w=>by
    simp only [Sem.run_bind,h w,Result.andThen_ok,Sem.run_pure]
  unfold aBiP at h
  split at h
  · split at h
    · obtain ⟨x, _, rfl, hx, hn⟩ := AV.relL_cons.1 ha
      rw [AV.relL_nil] at hn;subst hn
      obtain ⟨v,h1,h2⟩:=sliceData_ok (P:=P) (argTypes:=ts.toArray) (ty:=ty) h hx
      exact ⟨v,lft h1,h2⟩
    · cases h
  · split at h
    · obtain ⟨x, _, rfl, hx, ha⟩ := AV.relL_cons.1 ha
      obtain ⟨y,_,rfl,hy,hn⟩:=AV.relL_cons.1 ha
      rw [AV.relL_nil] at hn;subst hn
      obtain ⟨v,h1,h2⟩:=min2_ok (P:=P) h hx hy
      refine ⟨v,lft (s:=Builtin.min_ ts.toArray ty #[x,y]) (fun w=>?_),h2⟩
      simp only [Builtin.min_,List.foldlM,Sem.run_bind,h1 w,Result.andThen_ok,Sem.run_pure]
    · cases h
  · split at h
    · obtain ⟨x, _, rfl, hx, ha⟩ := AV.relL_cons.1 ha
      obtain ⟨y,_,rfl,hy,hn⟩:=AV.relL_cons.1 ha
      rw [AV.relL_nil] at hn;subst hn
      obtain ⟨v,h1,h2⟩:=max2_ok (P:=P) h hx hy
      refine ⟨v,lft (s:=Builtin.max_ ts.toArray ty #[x,y]) (fun w=>?_),h2⟩
      simp only [Builtin.max_,List.foldlM,Sem.run_bind,h1 w,Result.andThen_ok,Sem.run_pure]
    · cases h
  · split at h
    · rename_i x0 t
      split at h
      · rename_i e ht
        obtain ⟨x,_,rfl,hx,hn⟩:=AV.relL_cons.1 ha
        rw [AV.relL_nil] at hn;subst hn
        obtain ⟨d,h1,rfl⟩:=QJ hT ht rfl
        have key:∃ v,Yld P (Builtin.cap_ #[t] ty #[x]) v∧r.rel μ v:=by
          unfold Qfi at h
          split at h
          · injection h with h; subst h; simp only [AV.rel] at hx; subst hx
            exact ⟨.int .i64 (0:Nat),fun w=>by simp [Builtin.cap_,run_underlying h1,goInt],Zk⟩
          · rename_i id off len cap es
            injection h with h;subst h;simp only [AV.rel] at hx;obtain ⟨b,d,c,o,a,_,rfl,_,_,_,hc,_⟩:=hx
            obtain rfl:=hc trivial
            exact ⟨.int .i64 (c:Nat),fun w=>by simp [Builtin.cap_,run_underlying h1,goInt],Zk⟩
          · cases h
        obtain ⟨v,h2,h3⟩:=key
        exact ⟨v,lft h2,h3⟩
      · cases h
    · cases h
  · cases h
theorem biW_ok (hT : YN P T) {b : Builtin} {as : List AV} {ts : List Nat} {ty : TypeId} {cs : Array Bool} {vs : List Value} {r : AV} {h h' : H} {w : World} (hr : Rel μ h w) (e : aBiW T b as ts h = some (r, h')) (ha : AV.relL μ as vs) :
    ∃ v w' μ',(builtin b ts.toArray ty cs vs.toArray).run P w=.ok (.value v) w'∧r.rel μ' v∧Post μ h w μ' h' w':=by
  unfold aBiW at e
  split at e
  · split at e
    · rename_i p n t t2
      obtain ⟨x,_,rfl,hx,ha⟩:=AV.relL_cons.1 ha
      obtain ⟨y,_,rfl,hy,hn⟩:=AV.relL_cons.1 ha
      rw [AV.relL_nil] at hn;subst hn
      split at e
      · rename_i e' hk
        split at e
        · rename_i hc
          rw [Bool.and_eq_true,Nat.beq_eq] at hc
          have hu:(T e').kd=.int .u8:=by
            revert hc
            cases (T e').kd <;> simp only [Kd.isU8,Bool.false_eq_true,false_and,false_implies]
            rename_i i;cases i <;> simp
          obtain ⟨v,w',μ',q1,q2,q3⟩:=unStr_ok (nt:=t2) (ty:=ty) hT hk hu hc.2 hr e hx hy
          refine ⟨v,w',μ',?_,q2,q3⟩
          show ((do pure (.value (← Builtin.unsafeString_ #[t,t2] ty #[x,y])):Sem Next)).run P w=_
          simp only [Sem.run_bind,q1,Result.andThen_ok,Sem.run_pure]
        · cases e
      · cases e
    · cases e
  · split at e
    · rename_i p n t t2
      obtain ⟨x,_,rfl,hx,ha⟩:=AV.relL_cons.1 ha
      obtain ⟨y,_,rfl,hy,hn⟩:=AV.relL_cons.1 ha
      rw [AV.relL_nil] at hn;subst hn
      split at e
      · rename_i e' hk
        split at e
        · rename_i hc
          rw [Bool.and_eq_true,Nat.beq_eq] at hc
          have hu:(T e').kd=.int .u8:=by
            revert hc
            cases (T e').kd <;> simp only [Kd.isU8,Bool.false_eq_true,false_and,false_implies]
            rename_i i;cases i <;> simp
          obtain ⟨v,w',μ',q1,q2,q3⟩:=copyB_ok (t2:=t2) (ty:=ty) hT hk hu hc.2 hr e hx hy
          refine ⟨v,w',μ',?_,q2,q3⟩
          show ((do pure (.value (← Builtin.copy_ #[t,t2] ty #[x,y])):Sem Next)).run P w=_
          simp only [Sem.run_bind,q1,Result.andThen_ok,Sem.run_pure]
        · cases e
      · cases e
    · cases e
  · split at e
    · rename_i s t
      obtain ⟨x,_,rfl,hx,ha⟩:=AV.relL_cons.1 ha
      rw [AV.relL_nil] at ha;subst ha
      split at e
      · rename_i e' hk
        split at e
        · rename_i hc
          have hc:((T e').kd.known && ((!(Nat.beq (T e').size 0)) && Nat.beq (T e').zero.length (T e').size))=true:=hc
          rw [Bool.and_eq_true,Bool.and_eq_true,Nat.beq_eq] at hc
          obtain ⟨c1,c2,c3⟩:=hc
          have c2:(T e').size≠0:=fun q=>by rw [q] at c2;cases c2
          obtain ⟨v,w',μ',q1,q2,q3⟩:=clearS_ok (ty:=ty) hT hk c1 c2 c3 hr e hx
          refine ⟨v,w',μ',?_,q2,q3⟩
          show ((do pure (.value (← Builtin.clear_ #[t] ty #[x])):Sem Next)).run P w=_
          simp only [Sem.run_bind,q1,Result.andThen_ok,Sem.run_pure]
        · cases e
      · cases e
    · cases e
  · cases e
end
section
variable {P:Program} {T:Ty} (hT:YN P T) {μ:Mu}
theorem GZ : ∀ {cs : List AV} {s : Str}, YW cs = some s → ∃ l : List UInt8, s = Str.of l ∧ ∀ (i : Nat) (x : UInt8), l[i]? = some x → cs[i]? = some (.int .u8 (Int.ofNat x.toNat))
  | [], s, h => by
    simp only [YW,Option.some.injEq] at h;subst h
    exact ⟨[],rfl,fun i x e=>by simp at e⟩
  | a :: r, s, h => by
    unfold YW at h
    split at h
    · rename_i e;cases e
    · rename_i c r' e
      injection e with e1 e2;subst e1 e2
      rw [Str.brec] at h
      split at h
      · rename_i hlt; rw [QH] at hlt
        split at h
        · rename_i s' hs
          injection h with h;subst h
          obtain ⟨l,rfl,hl⟩:=GZ hs
          refine ⟨UInt8.ofNat c::l,?_,?_⟩
          · have : (⟨1, c⟩ : Str) = Str.of [UInt8.ofNat c] := by
              simp [Str.of,Str.num,Nat.mod_eq_of_lt hlt]
            rw [this,Str.cat_of];rfl
          · intro i x e
            cases i with
            | zero=>simp at e;subst e;simp [Nat.mod_eq_of_lt hlt]
            | succ i=>exact hl i x (by simpa using e)
        · cases h
      · cases h
    · cases h
theorem sliceArr_run {t n e l u:Nat} {b o:Nat} {x y:Option Value} {w:World} (hT:YN P T) (ht:(T t).kd=.arr n e) (hk:(T e).kd.known=true) (hz:(T e).size=1)
    (hx:(x=none∧l=0)∨∃ k,x=some (.int k (Int.ofNat l))) (hy:(y=none∧u=n)∨∃ k,y=some (.int k (Int.ofNat u))) (h1:l≤u) (h2:u≤n) (h3:l < n) :
    (Instr.sliceAt t (.pointer (some ⟨b,o,none⟩)) x y none).run P w=.ok (.slice (some ⟨b,o+l,none⟩) (u - l) (n - l)) w:=by
  obtain ⟨d,e1,rfl⟩:=QJ hT ht rfl
  have:=Yn (P:=P) (w:=w) (isSlice:=false) (len:=n) (cap:=n) hx hy h1 h2
  have hne:¬ n=l:=by omega
  simp only [Instr.sliceAt,Sem.run_bind,run_underlying e1,Result.andThen_ok,Instr.sureAddr,Sem.run_pure,this,Q6 hT hk,hz,hne,if_false,ZM,Nat.mul_one]
theorem sliceArr_ok {t n e:Nat} {a r:AV} {v:Value} {lo hi:Option AV} {x y:Option Value} {h h':H} {w:World} (hT:YN P T) (ht:(T t).kd=.arr n e) (hk:(T e).kd=.int .u8) (hz:(T e).size=1) (hR:Rel μ h w)
    (ee:Va n a lo hi h=some (r,h')) (ha:a.rel μ v) (hx:Wr μ lo x) (hy:Wr μ hi y):∃ z,(Instr.sliceAt t v x y none).run P w=.ok z w∧r.rel μ z∧Post μ h w μ h' w:=by
  unfold Va at ee
  split at ee
  rotate_left
  · cases ee
  rename_i id off
  split at ee
  rotate_left
  · cases ee
  rename_i l u hl hu
  split at ee
  rotate_left
  · cases ee
  rename_i hc
  simp only [Bool.and_eq_true,Qk,QH] at hc
  obtain ⟨c1,c2,c3⟩:=hc
  simp only [AV.rel] at ha
  obtain ⟨b,d,hm,rfl⟩:=ha
  have hrun:=sliceArr_run (b:=b) (o:=d+off) (w:=w) hT ht (by rw [hk];rfl) hz (ZY hl hx) (ZY hu hy) c2 c1 c3
  have hb:=hR.blk id b d hm
  have fin:∀ {ccs:Array Value} {t0:Nat} {fr:Nat × Nat} {L:List UInt8},w.heap[b]?=some (.cells ccs t0 fr)→(∀ i x,L[i]?=some x→ccs[d+i]?=some (.int .u8 x.toNat))→off+n≤L.length →
      AV.rel μ (.slice id (off+l) (u - l) (n - l) 1 true) (.slice (some ⟨b,d+off+l,none⟩) (u - l) (n - l)):=by
    intro ccs t0 fr L hw hL hlen
    have hs:d+L.length≤ccs.size:=by
      obtain ⟨i,hi⟩:∃ i,L.length=i+1:=⟨L.length - 1,by omega⟩
      have:=hL i L[i] (by simp)
      have:=(Array.getElem?_eq_some_iff.1 this).1
      omega
    have hcn:=hR.cnt id b d ccs t0 fr hm hw
    simp only [AV.rel]
    exact ⟨b,d,_,_,_,hm,rfl,.inl rfl,fun _=>Nat.add_assoc _ _ _,Nat.le_refl _,fun _=>rfl,by omega,by omega,by omega⟩
  split at ee
  · rename_i t0 cs hg
    split at ee
    rotate_left
    · cases ee
    rename_i s hs
    split at ee
    rotate_left
    · cases ee
    rename_i hlen
    rw [Qk] at hlen
    split at ee
    rotate_left
    · cases ee
    rename_i h1 hput
    simp only [seqN_eq] at ee
    injection ee with ee;injection ee with e1 e2;subst e1 e2
    obtain ⟨L,rfl,hL⟩:=GZ hs
    rw [hg] at hb
    obtain ⟨ccs,fr,hw,hcs,hlo,hd⟩:=hb
    have hL':∀ i x,L[i]?=some x→ccs[d+i]?=some (.int .u8 x.toNat):=fun i x e=>by
      obtain ⟨v,h1,h2⟩:=hcs i _ (hL i x e)
      simp only [AV.rel] at h2;subst h2;exact h1
    have hi:=(H.put_some hput hR.wf).2.1
    refine ⟨_,hrun,fin hw hL' hlen,Yd hR hput hm (by rw [hg];rfl) rfl rfl rfl rfl (fun _ _=>rfl) (fun ccs' t' fr' hh=>⟨_,_,_,hh,rfl⟩) ?_⟩
    exact ⟨ccs,fr,L,hw,rfl,hL',fun hu=>hlo ((Qk _ _).2 hi),fun h=>by cases h⟩
  · rename_i t0 fz sg s hg
    split at ee
    rotate_left
    · cases ee
    rename_i hlen
    rw [Qk] at hlen
    simp only [seqN_eq] at ee
    injection ee with ee;injection ee with e1 e2;subst e1 e2
    rw [hg] at hb
    obtain ⟨ccs,fr,L,hw,rfl,hL',_,_⟩:=hb
    exact ⟨_,hrun,fin hw hL' hlen,Post.refl hR⟩
  · cases ee
end
end Go.Am
namespace Go.Am
open Go
def Ye (kd:Kd) (a b:AV):Option Bool :=
  match kd,a,b with
  | .int _,.int k a,.int k' b=>Bool.rec none (some (eqI a b)) (keq k k')
  | .str,.str a,.str b=>some (a.beq b)
  | .bool,.bool a,.bool b=>some (Bool.rec (Bool.not b) b a)
  | _,_,_=>none
def Vy (kd:Kd) (k:AV):List (AV × AV × Nat)→Nat→Option (Option (Nat × AV × Nat))
  | [],_=>some none
  | (k', v, n) :: r, i => match Ye kd k k' with
    | some true=>some (some (i,v,n))
    | some false=>Vy kd k r (Nat.succ i)
    | none=>none
def QeA {α:Type}:Nat→List α→List α
  | _,[]=>[]
  | 0,_::t=>t
  | i+1,a::t=>a::QeA i t
theorem Qdg {α:Type}:∀ (i:Nat) (l:List α),QeA i l=l.eraseIdx i
  | _,[]=>by cases ‹Nat› <;> rfl
  | 0,_::_=>rfl
  | i+1,a::t=>by simp [QeA,Qdg i t]
theorem EsRel.length {μ:Mu}:∀ {es:List (AV × AV × Nat)} {l:List MapEntry},EsRel μ es l→l.length=es.length
  | [],_,h=>by rw [show _=[] from h];rfl
  | (k,v,n)::es,l,h=>by obtain ⟨e,l',rfl,_,_,_,h5⟩:=h;simp [h5.length]
theorem EsRel.get {μ:Mu}:∀ {es:List (AV × AV × Nat)} {l:List MapEntry},EsRel μ es l→∀ {i:Nat} {k v:AV} {n:Nat},es[i]?=some (k,v,n)→∃ e,l[i]?=some e∧k.rel μ e.key∧v.rel μ e.val∧e.born=n
  | [],_,_,_,_,_,_,hi=>by simp at hi
  | (k, v, n) :: es, l, h, i, k', v', n', hi => by
    obtain ⟨e,l',rfl,h2,h3,h4,h5⟩:=h
    cases i with
    | zero=>simp at hi;obtain ⟨rfl,rfl,rfl⟩:=hi;exact ⟨e,rfl,h2,h3,h4⟩
    | succ i=>simp at hi;obtain ⟨e',q1,q2⟩:=h5.get hi;exact ⟨e',by simpa using q1,q2⟩
theorem EsRel.append {μ:Mu}:∀ {es es':List (AV × AV × Nat)} {l l':List MapEntry},EsRel μ es l→EsRel μ es' l'→EsRel μ (es++es') (l++l')
  | [],_,_,_,h,h'=>by rw [show _=[] from h];exact h'
  | (k, v, n) :: es, es', l, l', h, h' => by
    obtain ⟨e,r,rfl,h2,h3,h4,h5⟩:=h
    exact ⟨e,r++l',rfl,h2,h3,h4,h5.append h'⟩
theorem EsRel.set {μ:Mu}:∀ {es:List (AV × AV × Nat)} {l:List MapEntry},EsRel μ es l→∀ {i:Nat} {k v:AV} {n:Nat} {e:MapEntry},k.rel μ e.key→v.rel μ e.val→e.born=n→EsRel μ (es.set i (k,v,n)) (l.set i e)
  | [],_,h,_,_,_,_,_,_,_,_=>by rw [show _=[] from h];rfl
  | (k, v, n) :: es, l, h, i, k', v', n', e', a, b, c => by
    obtain ⟨e,l',rfl,h2,h3,h4,h5⟩:=h
    cases i with
    | zero=>exact ⟨e',l',rfl,a,b,c,h5⟩
    | succ i=>exact ⟨e,l'.set i e',rfl,h2,h3,h4,h5.set a b c⟩
theorem EsRel.erase {μ:Mu}:∀ {es:List (AV × AV × Nat)} {l:List MapEntry},EsRel μ es l→∀ {i:Nat},EsRel μ (es.eraseIdx i) (l.eraseIdx i)
  | [],_,h,_=>by rw [show _=[] from h];rfl
  | (k, v, n) :: es, l, h, i => by
    obtain ⟨e,l',rfl,h2,h3,h4,h5⟩:=h
    cases i with
    | zero=>exact h5
    | succ i=>exact ⟨e,l'.eraseIdx i,rfl,h2,h3,h4,h5.erase⟩
def ZU (kd:Kd) (k:AV):List (AV × AV)→Option (Option AV)
  | []=>some none
  | p :: r => match Ye kd k p.1, ZU kd k r with
    | some true,some _=>some (some p.2)
    | some false,some x=>some x
    | _,_=>none
def QbA:AV→AV→Bool
  | .int _ a,.int _ b=>ltI a b
  | .str a,.str b=>a.lt b
  | .bool a,.bool b=>Bool.rec b false a
  | _,_=>false
def Gt (p:AV × AV):List (AV × AV)→List (AV × AV)
  | []=>[p]
  | q :: r => match QbA p.1 q.1 with
    | true=>p::q::r
    | false=>q::Gt p r
def WW (kd:Kd) (k v:AV):List (AV × AV)→List (AV × AV)
  | []=>[]
  | q :: r => match Ye kd k q.1 with
    | some true=>(k,v)::WW kd k v r
    | _=>q::WW kd k v r
def NQ (kd:Kd) (k:AV):List (AV × AV)→List (AV × AV)
  | []=>[]
  | q :: r => match Ye kd k q.1 with
    | some true=>NQ kd k r
    | _=>q::NQ kd k r
theorem eqI_iff {a b:Int}:eqI a b=true ↔ a=b:=by rw [WV];simp
theorem Str.beq_iff {a b:Str}:a.beq b=true ↔ a=b:=by
  cases a with | mk l v=>cases b with | mk l' v'=>
  unfold Str.beq
  simp [Str.brec]
theorem YR {kd:Kd} {a b:AV} {q:Bool} (h:Ye kd a b=some q):q=true ↔ a=b:=by
  unfold Ye at h
  split at h
  · rw [Str.brec] at h
    split at h
    · rename_i hk; rw [W3] at hk; subst hk
      injection h with h;subst h
      rw [eqI_iff];simp
    · cases h
  · injection h with h; subst h
    rw [Str.beq_iff];simp
  · rename_i a b
    injection h with h;subst h
    cases a <;> cases b <;> simp
  · cases h
theorem Vx {kd:Kd} {k:AV}:∀ {es:List (AV × AV)} {x:Option AV},ZU kd k es=some x→∀ p∈es,∃ q,Ye kd k p.1=some q
  | [],_,_,p,hp=>by cases hp
  | e :: r, x, h, p, hp => by
    unfold ZU at h
    split at h
    · rename_i h1 h2
      rcases List.mem_cons.1 hp with rfl | hp
      · exact ⟨_,h1⟩
      · exact Vx h2 p hp
    · rename_i h1 h2
      rcases List.mem_cons.1 hp with rfl | hp
      · exact ⟨_,h1⟩
      · exact Vx h2 p hp
    · cases h
theorem Jn {kd:Kd} {k:AV}:∀ {es:List (AV × AV)},ZU kd k es=some none→∀ p∈es,p.1≠k
  | [],_,p,hp=>by cases hp
  | e :: r, h, p, hp => by
    unfold ZU at h
    split at h
    · cases h
    · rename_i x h1 h2
      injection h with h;subst h
      rcases List.mem_cons.1 hp with rfl | hp
      · intro e';have:=(YR h1).2 e'.symm;cases this
      · exact Jn h2 p hp
    · cases h
theorem Jm {kd:Kd} {k v:AV}:∀ {es:List (AV × AV)},ZU kd k es=some (some v)→(k,v)∈es
  | [],h=>by cases h
  | e :: r, h => by
    unfold ZU at h
    split at h
    · rename_i h1 h2
      injection h with h;injection h with h;subst h
      have:=(YR h1).1 rfl
      rw [this];exact List.mem_cons_self
    · rename_i x h1 h2
      injection h with h;subst h
      exact List.mem_cons_of_mem _ (Jm h2)
    · cases h
theorem N1 {kd : Kd} {k : AV} : ∀ {es : List (AV × AV × Nat)} (i : Nat), (∀ p ∈ es, ∃ q, Ye kd k p.1 = some q) →
    (Vy kd k es i=some none∧∀ p∈es,p.1≠k)∨∃ j v n,Vy kd k es i=some (some (i+j,v,n))∧es[j]?=some (k,v,n)
  | [],i,_=>.inl ⟨rfl,fun p hp=>by cases hp⟩
  | (k', v, n) :: r, i, h => by
    obtain ⟨q,hq⟩:=h _ List.mem_cons_self
    have hq:Ye kd k k'=some q:=hq
    have he:=YR hq
    cases q with
    | true =>
      have:=he.1 rfl;subst this
      exact .inr ⟨0,v,n,by unfold Vy;rw [hq];rfl,rfl⟩
    | false =>
      have hne:k'≠k:=fun e=>by have:=he.2 e.symm;cases this
      rcases N1 (es:=r) (Nat.succ i) (fun p hp=>h p (List.mem_cons_of_mem _ hp)) with ⟨h1,h2⟩ | ⟨j,v',n',h1,h2⟩
      · refine .inl ⟨by unfold Vy; rw [hq]; exact h1, fun p hp => ?_⟩
        rcases List.mem_cons.1 hp with rfl | hp
        · exact hne
        · exact h2 p hp
      · refine .inr ⟨j + 1, v', n', ?_, by simpa using h2⟩
        unfold Vy;rw [hq];simp only;rw [h1];congr 2;simp only [Prod.mk.injEq,and_true];omega
theorem key_uniq {es:List (AV × AV)} (hk:(es.map (·.1)).Nodup) {k v v':AV} (h:(k,v)∈es) (h':(k,v')∈es):v=v':=by
  induction es with
  | nil=>cases h
  | cons e r ih =>
    rw [List.map_cons,List.nodup_cons] at hk
    rcases List.mem_cons.1 h with rfl | g <;> rcases List.mem_cons.1 h' with g' | g'
    · cases g';rfl
    · exact absurd (List.mem_map.2 ⟨_,g',rfl⟩) hk.1
    · subst g';exact absurd (show k∈r.map (·.1) from List.mem_map.2 ⟨(k,v),g,rfl⟩) hk.1
    · exact ih hk.2 g g'
theorem YO.find {es:List (AV × AV)} {es':List (AV × AV × Nat)} {clock:Nat} (s:YO es es' clock) {kd:Kd} {k:AV} {x:Option AV} (h:ZU kd k es=some x) :
    match x with
    | none=>Vy kd k es' 0=some none
    | some v=>∃ j n,Vy kd k es' 0=some (some (j,v,n))∧es'[j]?=some (k,v,n):=by
  have hm:∀ p∈es',(p.1,p.2.1)∈es:=fun p hp=>s.perm.mem_iff.1 (List.mem_map.2 ⟨p,hp,rfl⟩)
  have hall:∀ p∈es',∃ q,Ye kd k p.1=some q:=fun p hp=>Vx h _ (hm p hp)
  rcases N1 (es:=es') 0 hall with ⟨h1,h2⟩ | ⟨j,v',n,h1,h2⟩
  · cases x with
    | none=>exact h1
    | some v =>
      have:=s.perm.mem_iff.2 (Jm h)
      obtain ⟨p,hp,hp2⟩:=List.mem_map.1 this
      exact absurd (congrArg Prod.fst hp2) (h2 p hp)
  · have hv := hm _ (List.mem_of_getElem? h2)
    cases x with
    | none=>exact absurd rfl (Jn h _ hv)
    | some v =>
      have:=key_uniq s.keys hv (Jm h)
      have this:v'=v:=this
      subst this
      exact ⟨j,n,by rw [h1];simp,h2⟩
theorem Kb {α:Type}:∀ {l:List α} {j:Nat} {a:α},l[j]?=some a→l.Perm (a::l.eraseIdx j)
  | [],j,a,h=>by simp at h
  | x::l,0,a,h=>by simp at h;subst h;exact .refl _
  | x :: l, j + 1, a, h => by
    have h:l[j]?=some a:=by simpa using h
    exact ((Kb h).cons x).trans (.swap _ _ _)
theorem Qbb {α:Type} (b:α):∀ {l:List α} {j:Nat},j < l.length→(l.set j b).Perm (b::l.eraseIdx j)
  | [],j,h=>by simp at h
  | x::l,0,h=>.refl _
  | x :: l, j + 1, h => by
    have h:j < l.length:=by simpa using h
    exact ((Qbb b h).cons x).trans (.swap _ _ _)
theorem XF (p:AV × AV):∀ (l:List (AV × AV)),(Gt p l).Perm (p::l)
  | []=>.refl _
  | q :: r => by
    unfold Gt;split
    · exact .refl _
    · exact ((XF p r).cons q).trans (.swap p q r)
theorem replC_eq {kd : Kd} {k v : AV} : ∀ {l : List (AV × AV)}, (∀ p ∈ l, ∃ q, Ye kd k p.1 = some q) → ∀ {l' : List (AV × AV)}, l'.Perm l → (l.map (·.1)).Nodup → ∀ {j : Nat} {v0 : AV}, l'[j]? = some (k, v0) → (l'.set j (k, v)).Perm (WW kd k v l) := by
  have none_:∀ (l:List (AV × AV)),(∀ p∈l,∃ q,Ye kd k p.1=some q)→(∀ p∈l,p.1≠k)→WW kd k v l=l:=by
    intro l
    induction l with
    | nil=>intro _ _;rfl
    | cons q r ih =>
      intro hall hne
      obtain ⟨b,hb⟩:=hall q List.mem_cons_self
      have:b=false:=by
        cases b with
        | false=>rfl
        | true=>exact absurd ((YR hb).1 rfl).symm (hne q List.mem_cons_self)
      subst this
      unfold WW;rw [hb];simp only
      rw [ih (fun p hp=>hall p (List.mem_cons_of_mem _ hp)) fun p hp=>hne p (List.mem_cons_of_mem _ hp)]
  have split_:∀ (l:List (AV × AV)),(∀ p∈l,∃ q,Ye kd k p.1=some q)→(l.map (·.1)).Nodup→∀ (v0:AV) (A:List (AV × AV)),((k,v0)::A).Perm l→((k,v)::A).Perm (WW kd k v l):=by
    intro l
    induction l with
    | nil=>intro _ _ v0 A h;have:=h.length_eq;simp at this
    | cons q r ih =>
      intro hall hn v0 A h
      rw [List.map_cons,List.nodup_cons] at hn
      obtain ⟨b,hb⟩:=hall q List.mem_cons_self
      unfold WW;rw [hb]
      cases b with
      | true =>
        have hk:=(YR hb).1 rfl
        simp only
        rw [none_ r (fun p hp=>hall p (List.mem_cons_of_mem _ hp)) fun p hp e=>hn.1 (by rw [← hk,← e];exact List.mem_map.2 ⟨p,hp,rfl⟩)]
        have hq:q=(k,v0):=by
          rcases List.mem_cons.1 (h.mem_iff.1 List.mem_cons_self) with e | e
          · exact e.symm
          · exact absurd (List.mem_map.2 ⟨_,e,hk⟩) hn.1
        subst hq
        exact (h.cons_inv).cons _
      | false =>
        simp only
        have hk:q.1≠k:=fun e=>by have:=(YR hb).2 e.symm;cases this
        have hq:q∈(k,v0)::A:=h.mem_iff.2 List.mem_cons_self
        rcases List.mem_cons.1 hq with e | hq
        · subst e;exact absurd rfl hk
        · obtain ⟨A1, A2, rfl⟩ := List.append_of_mem hq
          have hp:((k,v0)::(A1++A2)).Perm r:=by
            refine List.Perm.cons_inv (a:=q) (.trans ?_ h)
            exact (List.Perm.swap _ _ _).trans (.cons _ (List.perm_middle.symm))
          have:=ih (fun p hp=>hall p (List.mem_cons_of_mem _ hp)) hn.2 v0 (A1++A2) hp
          refine .trans ?_ (this.cons q)
          exact .trans (.cons _ List.perm_middle) (.swap _ _ _)
  intro l hall l' hp hn j v0 hj
  have hjl:j < l'.length:=(List.getElem?_eq_some_iff.1 hj).1
  have e1:=Kb hj
  have e2:=Qbb (k,v) hjl
  exact e2.trans (split_ l hall hn v0 _ (e1.symm.trans hp))
theorem delC_perm {kd : Kd} {k : AV} {l : List (AV × AV)} (hall : ∀ p ∈ l, ∃ q, Ye kd k p.1 = some q) (hn : (l.map (·.1)).Nodup) {v0 : AV} {A : List (AV × AV)} (h : ((k, v0) :: A).Perm l) : A.Perm (NQ kd k l) := by
  have none_:∀ (l:List (AV × AV)),(∀ p∈l,∃ q,Ye kd k p.1=some q)→(∀ p∈l,p.1≠k)→NQ kd k l=l:=by
    intro l
    induction l with
    | nil=>intro _ _;rfl
    | cons q r ih =>
      intro hall hne
      obtain ⟨b,hb⟩:=hall q List.mem_cons_self
      have:b=false:=by
        cases b with
        | false=>rfl
        | true=>exact absurd ((YR hb).1 rfl).symm (hne q List.mem_cons_self)
      subst this
      unfold NQ;rw [hb];simp only
      rw [ih (fun p hp=>hall p (List.mem_cons_of_mem _ hp)) fun p hp=>hne p (List.mem_cons_of_mem _ hp)]
  induction l generalizing A with
  | nil=>have:=h.length_eq;simp at this
  | cons q r ih =>
    rw [List.map_cons,List.nodup_cons] at hn
    obtain ⟨b,hb⟩:=hall q List.mem_cons_self
    unfold NQ;rw [hb]
    cases b with
    | true =>
      have hk:=(YR hb).1 rfl
      simp only
      rw [none_ r (fun p hp=>hall p (List.mem_cons_of_mem _ hp)) fun p hp e=>hn.1 (by rw [← hk,← e];exact List.mem_map.2 ⟨p,hp,rfl⟩)]
      have hq:q=(k,v0):=by
        rcases List.mem_cons.1 (h.mem_iff.1 List.mem_cons_self) with e | e
        · exact e.symm
        · exact absurd (List.mem_map.2 ⟨_,e,hk⟩) hn.1
      subst hq
      exact h.cons_inv
    | false =>
      simp only
      have hk:q.1≠k:=fun e=>by have:=(YR hb).2 e.symm;cases this
      have hq:q∈(k,v0)::A:=h.mem_iff.2 List.mem_cons_self
      rcases List.mem_cons.1 hq with e | hq
      · subst e;exact absurd rfl hk
      · obtain ⟨A1, A2, rfl⟩ := List.append_of_mem hq
        have hp:((k,v0)::(A1++A2)).Perm r:=by
          refine List.Perm.cons_inv (a:=q) (.trans ?_ h)
          exact (List.Perm.swap _ _ _).trans (.cons _ (List.perm_middle.symm))
        exact List.perm_middle.trans ((ih (fun p hp=>hall p (List.mem_cons_of_mem _ hp)) hn.2 hp).cons q)
theorem J3 {kd:Kd} {k v:AV}:∀ (l:List (AV × AV)),(WW kd k v l).map (·.1)=l.map (·.1)
  | []=>rfl
  | q :: r => by
    unfold WW;split
    · rename_i h
      have:=(YR h).1 rfl
      simp [J3 r,this]
    · simp [J3 r]
theorem YO.set {es : List (AV × AV)} {es' : List (AV × AV × Nat)} {clock : Nat} (s : YO es es' clock) {kd : Kd} {k v v0 : AV} {j n : Nat} (h : ZU kd k es = some (some v0)) (hj : es'[j]? = some (k, v0, n)) : YO (WW kd k v es) (es'.set j (k, v, n)) clock := by
  refine ⟨?_,by rw [J3];exact s.keys,?_,?_⟩
  · rw [List.map_set]
    exact replC_eq (Vx h) s.perm s.keys (v0:=v0) (by rw [List.getElem?_map,hj];rfl)
  · have : (es'.set j (k, v, n)).map (·.2.2) = es'.map (·.2.2) := by
      rw [List.map_set]
      apply List.ext_getElem?
      intro q
      rw [List.getElem?_set]
      split
      · rename_i e; subst e
        split
        · rw [List.getElem?_map,hj];rfl
        · rename_i hl;simp at hl;rw [List.getElem?_eq_none (by simpa using hl)]
      · rfl
    rw [this];exact s.stamps
  · intro e he
    rcases List.mem_or_eq_of_mem_set he with he | rfl
    · exact s.low e he
    · exact s.low (k,v0,n) (List.mem_of_getElem? hj)
theorem YO.push {es:List (AV × AV)} {es':List (AV × AV × Nat)} {clock:Nat} (s:YO es es' clock) {kd:Kd} {k v:AV} (h:ZU kd k es=some none):YO (Gt (k,v) es) (es'++[(k,v,clock)]) (clock+1):=by
  refine ⟨?_,?_,?_,?_⟩
  · rw [List.map_append]
    exact (List.perm_append_comm.trans (s.perm.cons (k,v))).trans (XF (k,v) es).symm
  · refine (List.Perm.nodup_iff ((XF (k, v) es).map _)).2 ?_
    rw [List.map_cons,List.nodup_cons]
    refine ⟨fun hm=>?_,s.keys⟩
    obtain ⟨p,hp,e⟩:=List.mem_map.1 hm
    exact Jn h p hp e
  · rw [List.map_append, List.nodup_append]
    refine ⟨s.stamps,by simp,?_⟩
    intro a ha b hb
    obtain ⟨e,he,rfl⟩:=List.mem_map.1 ha
    simp at hb;subst hb
    have:=s.low e he;omega
  · intro e he
    rcases List.mem_append.1 he with he | he
    · have:=s.low e he;omega
    · simp at he;subst he;show clock < _;omega
theorem YO.erase {es:List (AV × AV)} {es':List (AV × AV × Nat)} {clock:Nat} (s:YO es es' clock) {kd:Kd} {k v0:AV} {j n:Nat} (h:ZU kd k es=some (some v0)) (hj:es'[j]?=some (k,v0,n)):YO (NQ kd k es) (es'.eraseIdx j) clock:=by
  have e1:(((k,v0):AV × AV)::(es'.eraseIdx j).map fun e=>(e.1,e.2.1)).Perm es:=.trans (((Kb hj).map (fun e:AV × AV × Nat=>(e.1,e.2.1))).symm) s.perm
  have e2:=delC_perm (Vx h) s.keys e1
  refine ⟨e2,?_,?_,fun e he=>s.low e (List.mem_of_mem_eraseIdx he)⟩
  · refine (List.Perm.nodup_iff (e2.map _)).1 ?_
    have:=(List.Perm.nodup_iff (e1.map (·.1))).2 s.keys
    rw [List.map_cons,List.nodup_cons] at this
    exact this.2
  · exact s.stamps.sublist ((List.eraseIdx_sublist _ _).map _)
theorem YO.length {es:List (AV × AV)} {es':List (AV × AV × Nat)} {clock:Nat} (s:YO es es' clock):es.length=es'.length:=by
  have:=s.perm.length_eq;simpa using this.symm
theorem Qcv (a b:ByteArray):(a == b)=decide (a=b):=by
  cases a with | mk a=>cases b with | mk b=>
  show (a == b)=_
  rw [Bool.eq_iff_iff];simp
section
variable {P:Program} {T:Ty} (hT:YN P T) {μ:Mu}
theorem QbB {kd:Kd} {d:TypeDesc} (hd:Jr kd d) {a b:AV} {x y:Value} {q:Bool} (h:Ye kd a b=some q) (ha:a.rel μ x) (hb:b.rel μ y) :
    Instr.sameNow d x y=some q∧(q=true→Instr.sameBits 10000 y x=true):=by
  unfold Ye at h
  split at h
  · rename_i k0 k a k' b
    rw [Str.brec] at h
    split at h
    · rename_i hk; rw [W3] at hk; subst hk
      injection h with h;subst h
      simp only [AV.rel] at ha hb;subst ha hb
      have hd':d=.int k0:=hd
      subst hd'
      rw [WV]
      refine ⟨by simp [Instr.sameNow],fun e=>?_⟩
      simp only [beq_iff_eq] at e
      subst e
      rw [Instr.sameBits];simp
    · cases h
  · rename_i a b
    injection h with h;subst h
    simp only [AV.rel] at ha hb
    obtain ⟨s,rfl,rfl⟩:=ha
    obtain ⟨t,rfl,rfl⟩:=hb
    have hd':d=.string:=hd
    subst hd'
    have e:(s == t)=(Str.of s.data.toList).beq (Str.of t.data.toList):=by
      rw [Str.beq_of,Qcv,Bool.eq_iff_iff,decide_eq_true_eq,beq_iff_eq]
      constructor
      · rintro rfl;rfl
      · intro h;cases s;cases t;simp only at h;rw [Array.toList_inj.1 h]
    refine ⟨by simp [Instr.sameNow,e],fun h=>?_⟩
    rw [← e,Qcv,decide_eq_true_eq] at h;subst h
    rw [Instr.sameBits,Qcv];simp
  · rename_i a b
    injection h with h;subst h
    simp only [AV.rel] at ha hb;subst ha hb
    have hd':d=.bool:=hd
    subst hd'
    refine ⟨by cases a <;> cases b <;> rfl,fun h=>?_⟩
    cases a <;> cases b <;> first | rfl | cases h
  · cases h
theorem YF {kd : Kd} {d : TypeDesc} (hd : Jr kd d) {k : AV} {x : Value} (hk : k.rel μ x) : ∀ {es : List (AV × AV × Nat)} {l : List MapEntry} {i : Nat} {r : Option (Nat × AV × Nat)}, Vy kd k es i = some r → EsRel μ es l →
    match r with
    | none=>Instr.findNow d x l i=some none
    | some (j,v,n)=>∃ e,Instr.findNow d x l i=some (some (j,e.val))∧i≤j∧l[j - i]?=some e∧v.rel μ e.val∧e.born=n∧Instr.sameBits 10000 e.key x=true
  | [], l, i, r, h, hr => by
    rw [show l=[] from hr]
    injection h with h;subst h;rfl
  | (k', v, n) :: es, l, i, r, h, hr => by
    obtain ⟨e,l',rfl,h2,h3,h4,h5⟩:=hr
    unfold Vy at h
    split at h
    · rename_i hq
      obtain ⟨q1,q2⟩:=QbB hd hq hk h2
      injection h with h;subst h
      exact ⟨e,by simp [Instr.findNow,q1],Nat.le_refl _,by simp,h3,h4,q2 rfl⟩
    · rename_i hq
      obtain ⟨q1,_⟩:=QbB hd hq hk h2
      have ih:=YF hd hk h h5
      cases r with
      | none=>simp only [Instr.findNow,q1];exact ih
      | some p =>
        obtain ⟨j,v',n'⟩:=p
        obtain ⟨e',e1,e2,e3,e4⟩:=ih
        refine ⟨e',by simp only [Instr.findNow,q1];exact e1,by omega,?_,e4⟩
        rw [show j - i=(j - Nat.succ i)+1 from by omega];simpa using e3
    · cases h
def Kd.scalar:Kd→Bool
  | .bool | .int _ | .str=>true
  | _=>false
theorem Wc {t:Nat} {d:TypeDesc} (hd:P.underlying t=some d) {kd:Kd} (hk:Jr kd d) (hs:kd.scalar=true) (b:Bool) (v:Value) (w:World):(Instr.checkKey b 10000 t v).run P w=.ok () w:=by
  rw [show (10000:Nat)=9999+1 from rfl,Instr.checkKey]
  simp only [Sem.run_bind,run_underlying hd,Result.andThen_ok]
  cases kd <;> simp only [Kd.scalar,Bool.false_eq_true] at hs <;> simp only [Jr] at hk <;> subst hk <;> rfl
def JS (T : Ty) (t : Nat) : Option AV :=
  match (T t).kd.agg with
  | true=>some (.agg (T t).zero)
  | false => match (T t).zero with
    | [z] => match z with
      | .agg _=>none
      | .tuple _=>none
      | z=>some z
    | _=>none
def D9 (T:Ty) (k e:Nat) (ok:Bool) (es:List (AV × AV × Nat)) (i:AV):Option AV :=
  match (T k).kd.scalar && (T e).kd.known with
  | true => match Vy (T k).kd i es 0 with
    | some (some (_, v, _)) => some (match ok with
      | true=>.tuple [v,.bool true]
      | false=>v)
    | some none => match JS T e with
      | some z => some (match ok with
        | true=>.tuple [z,.bool false]
        | false=>z)
      | none=>none
    | none=>none
  | false=>none
def Ki (T:Ty) (k e:Nat) (ok:Bool) (es:List (AV × AV)) (i:AV):Option AV :=
  match (T k).kd.scalar && (T e).kd.known with
  | true => match ZU (T k).kd i es with
    | some (some v) => some (match ok with
      | true=>.tuple [v,.bool true]
      | false=>v)
    | some none => match JS T e with
      | some z => some (match ok with
        | true=>.tuple [z,.bool false]
        | false=>z)
      | none=>none
    | none=>none
  | false=>none
theorem NY {T:Ty} {k e:Nat} {ok:Bool} {es:List (AV × AV)} {es':List (AV × AV × Nat)} {clock:Nat} (s:YO es es' clock) {i r:AV} (h:Ki T k e ok es i=some r):D9 T k e ok es' i=some r:=by
  unfold Ki at h
  unfold D9
  split at h
  · rename_i hc
    split at h
    · rename_i v hf
      obtain ⟨j,n,h1,_⟩:=s.find hf
      simp only [h1];exact h
    · rename_i hf
      have h1:=s.find hf
      simp only at h1
      simp only [h1];exact h
    · cases h
  · cases h
def Q5 (T:Ty) (k e:Nat) (ok:Bool) (x i:AV) (h:H):Option AV :=
  match x with
  | .nilm=>D9 T k e ok [] i
  | .map id => match h.get id with
    | .amap es _=>D9 T k e ok es i
    | .smap es=>Ki T k e ok es i
    | _=>none
  | _=>none
def UI (T:Ty) (k:Nat) (m i v:AV) (h:H):Option H :=
  match m with
  | .map id => match h.get id with
    | .amap es clock => match (T k).kd.scalar with
      | true => match Vy (T k).kd i es 0 with
        | some (some (j,_,n))=>h.put id (.amap (XB es j (i,v,n)) clock)
        | some none=>h.put id (.amap (Qbz es [(i,v,clock)]) (Nat.succ clock))
        | none=>none
      | false=>none
    | .smap es => match (T k).kd.scalar with
      | true => match ZU (T k).kd i es with
        | some (some _)=>h.put id (.smap (WW (T k).kd i v es))
        | some none=>h.put id (.smap (Gt (i,v) es))
        | none=>none
      | false=>none
    | _=>none
  | _=>none
def Xa (T:Ty) (k:Nat) (m i:AV) (h:H):Option H :=
  match (T k).kd.scalar with
  | true => match m with
    | .nilm=>some h
    | .map id => match h.get id with
      | .amap es clock => match Vy (T k).kd i es 0 with
        | some (some (j,_,_))=>h.put id (.amap (QeA j es) clock)
        | some none=>h.put id (.amap es clock)
        | none=>none
      | .smap es => match ZU (T k).kd i es with
        | some (some _)=>h.put id (.smap (NQ (T k).kd i es))
        | some none=>h.put id (.smap es)
        | none=>none
      | _=>none
    | _=>none
  | false=>none
def JI (m:AV) (h:H):Option AV :=
  match m with
  | .nilm=>some (.int .i64 (Int.ofNat 0))
  | .map id => match h.get id with
    | .amap es _=>some (.int .i64 (Int.ofNat es.length))
    | .smap es=>some (.int .i64 (Int.ofNat es.length))
    | _=>none
  | _=>none
theorem QZ {w:World} {b:Nat} {o:Obj} (h:w.heap[b]?=some o) (hc:∀ c e f,o≠.cells c e f):(getObj b).run P w=.ok o w:=by
  show Sem.run P (.getObj b .pure) w=_
  simp only [Sem.run,h]
theorem Yj {w:World} {b:Nat} {o o':Obj} (h:w.heap[b]?=some o) (hc:∀ c e f,o≠.cells c e f):(setObj b o').run P w=.ok () { w with heap:=w.heap.setIfInBounds b o' }:=by
  show Sem.run P (.setObj b o' (.pure ())) w=_
  simp only [Sem.run,h]
include hT in
theorem QcF {t:Nat} (hk:(T t).kd.known=true) {z:AV} (h:JS T t=some z) (w:World):∃ v,(zeroValue t).run P w=.ok v w∧z.rel μ v:=by
  unfold JS at h
  split at h
  · rename_i ha
    obtain ⟨v,h1,h2,h3⟩:=zero_run (w:=w) hT hk
    injection h with h;subst h
    obtain ⟨cs,rfl⟩:=h3 ha
    refine ⟨_,h1,?_⟩
    simp only [AV.rel]
    exact ⟨cs,rfl,AV.relL_mono (μ:=J8) (fun _ _ h=>by cases h) _ _ h2⟩
  · rename_i ha
    obtain ⟨v,h1,h2⟩:=zero_run1 (w:=w) hT hk ha
    split at h
    · rename_i z' hz
      rw [hz] at h2
      have hu:z'.rel μ v:=AV.rel_mono (μ:=J8) (fun _ _ h=>by cases h) _ _ (AV.relL_cons_cons.1 h2).1
      split at h
      · cases h
      · cases h
      · injection h with h;subst h;exact ⟨v,h1,hu⟩
    · cases h
include hT in
theorem Qay {k e : Nat} {ok : Bool} {es : List (AV × AV × Nat)} {l : Array MapEntry} {i r : AV} {y : Value} (h : D9 T k e ok es i = some r) (hes : EsRel μ es l.toList) (hi : i.rel μ y) (w : World) :
    ∃ v, (do
      Instr.checkKey l.isEmpty 10000 k y
      let (v,o) ← match ← Instr.findKey k y l.toList with
        | some (_,v)=>pure (v,true)
        | none=>pure (← zeroValue e,false)
      pure (if ok then .tuple #[v,.bool o] else v):Sem Value).run P w=.ok v w∧r.rel μ v:=by
  unfold D9 at h
  split at h
  · rename_i hc
    rw [Bool.and_eq_true] at hc
    obtain ⟨d,hd,hkd⟩:=QJ hT (t:=k) rfl (by revert hc;cases (T k).kd <;> simp [Kd.scalar,Kd.known])
    have hck:=Wc (P:=P) hd hkd hc.1 l.isEmpty y w
    have fin:∀ {v:Value} {a:AV} {o:Bool},a.rel μ v→(match ok with | true=>AV.tuple [a,.bool o] | false=>a).rel μ (if ok then .tuple #[v,.bool o] else v):=fun ha=>by
      cases ok with
      | false=>exact ha
      | true=>simp only [AV.rel];exact ⟨_,rfl,AV.relL_cons_cons.2 ⟨ha,AV.relL_cons_cons.2 ⟨by simp [AV.rel],AV.relL_nil.2 rfl⟩⟩⟩
    split at h
    · rename_i j v n hf
      injection h with h;subst h
      obtain ⟨e',e1,_,_,e4,_⟩:=YF hkd hi hf hes
      refine ⟨_,?_,fin (o:=true) e4⟩
      simp only [Sem.run_bind,hck,Result.andThen_ok,Instr.findKey,run_underlying hd,e1,Sem.run_pure]
    · rename_i hf
      have e1:=YF hkd hi hf hes
      simp only at e1
      split at h
      · rename_i z hz
        injection h with h;subst h
        obtain ⟨v,z1,z2⟩:=QcF (μ:=μ) hT hc.2 hz w
        refine ⟨_,?_,fin (o:=false) z2⟩
        simp only [Sem.run_bind,hck,Result.andThen_ok,Instr.findKey,run_underlying hd,e1,Sem.run_pure,z1]
      · cases h
    · cases h
  · cases h
include hT in
theorem lookup_ok {t k e:Nat} {ok:Bool} {x i r:AV} {vx vi:Value} {h:H} {w:World} (ht:(T t).kd=.map k e) (hR:Rel μ h w) (ee:Q5 T k e ok x i h=some r) (hx:x.rel μ vx) (hi:i.rel μ vi) :
    ∃ v,(Instr.lookup t vx vi ok).run P w=.ok v w∧r.rel μ v:=by
  obtain ⟨_,hd,rfl⟩:=QJ hT ht rfl
  unfold Q5 at ee
  split at ee
  · simp only [AV.rel] at hx; subst hx
    obtain ⟨v,h1,h2⟩:=Qay (P:=P) hT ee (l:=#[]) rfl hi w
    refine ⟨v,Eq.trans ?_ h1,h2⟩
    simp only [Instr.lookup,Sem.run_bind,run_underlying hd,Result.andThen_ok,Sem.run_pure]
    rfl
  · rename_i id
    simp only [AV.rel] at hx
    obtain ⟨b,hm,rfl⟩:=hx
    split at ee
    · rename_i es clock hg
      have hb:=hR.blk id b 0 hm
      rw [hg] at hb
      obtain ⟨_,ces,hh,hes⟩:=hb
      obtain ⟨v,h1,h2⟩:=Qay (P:=P) hT ee hes hi w
      refine ⟨v,Eq.trans ?_ h1,h2⟩
      simp only [Instr.lookup,Sem.run_bind,run_underlying hd,Result.andThen_ok,Sem.run_pure,QZ hh (by simp)]
      rfl
    · rename_i es hg
      have hb:=hR.blk id b 0 hm
      rw [hg] at hb
      obtain ⟨_,es',clock,ces,hh,hes,hs⟩:=hb
      obtain ⟨v,h1,h2⟩:=Qay (P:=P) hT (NY hs ee) hes hi w
      refine ⟨v,Eq.trans ?_ h1,h2⟩
      simp only [Instr.lookup,Sem.run_bind,run_underlying hd,Result.andThen_ok,Sem.run_pure,QZ hh (by simp)]
      rfl
    · cases ee
  · cases ee
theorem Yz {h h':H} {w:World} {id b:Nat} {k:Blk} {o o':Obj} (hR:Rel μ h w) (hm:μ id=some (b,0)) (hl:(h.get id).live=true) (hp:h.put id k=some h') (hh:w.heap[b]?=some o) (hc:∀ c e f,o'≠.cells c e f)
    (hk:∀ w':World,w'.heap[b]?=some o'→BlkRel μ w' b 0 k):Post μ h w μ h' { w with heap:=w.heap.setIfInBounds b o' }:=by
  have hlt:b < w.heap.size:=(Array.getElem?_eq_some_iff.1 hh).1
  have hb:({ w with heap:=w.heap.setIfInBounds b o' }:World).heap[b]?=some o':=by simp [hlt]
  exact Yd hR hp hm hl rfl rfl rfl (by simp) (fun c hc=>by simp [Array.getElem?_setIfInBounds_ne (Ne.symm hc)]) (fun ccs t fr he=>by rw [hb] at he;injection he with he;exact absurd he (hc _ _ _)) (hk _ hb)
include hT in
theorem DC {t k e : Nat} {m i v : AV} {vm vi vv : Value} {h h' : H} {w : World} (ht : (T t).kd = .map k e) (hR : Rel μ h w) (ee : UI T k m i v h = some h') (hm : m.rel μ vm) (hi : i.rel μ vi) (hv : v.rel μ vv) :
    ∃ w',(Instr.mapUpdate t vm vi vv).run P w=.ok () w'∧Post μ h w μ h' w':=by
  obtain ⟨_,hd,rfl⟩:=QJ hT ht rfl
  unfold UI at ee
  split at ee
  · rename_i id
    simp only [AV.rel] at hm
    obtain ⟨b,hm,rfl⟩:=hm
    split at ee
    · rename_i es clock hg
      have hb:=hR.blk id b 0 hm
      rw [hg] at hb
      obtain ⟨_,ces,hh,hes⟩:=hb
      split at ee
      · rename_i hc
        obtain ⟨d,hd2,hkd⟩:=QJ hT (t:=k) rfl (by revert hc;cases (T k).kd <;> simp [Kd.scalar,Kd.known])
        have hck:=Wc (P:=P) hd2 hkd hc false vi w
        split at ee
        · rename_i j v0 n hf
          obtain ⟨e',e1,e2,e3,_,e5,e6⟩:=YF hkd hi hf hes
          rw [Nat.sub_zero] at e3
          have e3':ces[j]?=some e':=by rw [← Array.getElem?_toList];exact e3
          refine ⟨_,?_,Yz hR hm (by rw [hg];rfl) ee hh (o':=.map (ces.modify j fun e=>{ e with key:=vi,val:=vv }) clock) (by simp) fun w' hw'=>⟨rfl,_,hw',?_⟩⟩
          · simp only [Instr.mapUpdate, Sem.run_bind, run_underlying hd, Result.andThen_ok, QZ hh (by simp), hck, Instr.findKey, run_underlying hd2, e1, Sem.run_pure, e3', Option.map_some, Option.getD_some, Instr.keyThatStays, e6, if_true]
            exact Yj hh (by simp)
          · have hj : j < ces.size := (Array.getElem?_eq_some_iff.1 e3').1
            have he':ces[j]=e':=by rw [Array.getElem?_eq_getElem hj] at e3';injection e3'
            have:(ces.modify j fun e=>{ e with key:=vi,val:=vv }).toList=ces.toList.set j { e' with key:=vi,val:=vv }:=by
              apply List.ext_getElem?
              intro q
              rw [Array.getElem?_toList,Array.getElem?_modify,List.getElem?_set,Array.getElem?_toList]
              by_cases hq:j=q
              · subst hq;rw [e3'];simp [hj]
              · simp [hq]
            rw [this,YY]
            exact hes.set hi hv e5
        · rename_i hf
          have e1:=YF hkd hi hf hes
          simp only at e1
          refine ⟨_,?_,Yz hR hm (by rw [hg];rfl) ee hh (o':=.map (ces.push { key:=vi,val:=vv,born:=clock }) (clock+1)) (by simp) fun w' hw'=>⟨rfl,_,hw',?_⟩⟩
          · simp only [Instr.mapUpdate, Sem.run_bind, run_underlying hd, Result.andThen_ok, QZ hh (by simp), hck, Instr.findKey, run_underlying hd2, e1, Sem.run_pure]
            exact Yj hh (by simp)
          · rw [KL, Array.toList_push]
            exact hes.append ⟨_,_,rfl,hi,hv,rfl,rfl⟩
        · cases ee
      · cases ee
    · rename_i es0 hg
      have hb:=hR.blk id b 0 hm
      rw [hg] at hb
      obtain ⟨_,es,clock,ces,hh,hes,hs⟩:=hb
      split at ee
      · rename_i hc
        obtain ⟨d,hd2,hkd⟩:=QJ hT (t:=k) rfl (by revert hc;cases (T k).kd <;> simp [Kd.scalar,Kd.known])
        have hck:=Wc (P:=P) hd2 hkd hc false vi w
        split at ee
        · rename_i v0 hf0
          obtain ⟨j,n,hf,hj0⟩:=hs.find hf0
          obtain ⟨e',e1,e2,e3,_,e5,e6⟩:=YF hkd hi hf hes
          rw [Nat.sub_zero] at e3
          have e3':ces[j]?=some e':=by rw [← Array.getElem?_toList];exact e3
          refine ⟨_,?_,Yz hR hm (by rw [hg];rfl) ee hh (o':=.map (ces.modify j fun e=>{ e with key:=vi,val:=vv }) clock) (by simp) fun w' hw'=>⟨rfl,_,_,_,hw',?_,hs.set hf0 hj0⟩⟩
          · simp only [Instr.mapUpdate, Sem.run_bind, run_underlying hd, Result.andThen_ok, QZ hh (by simp), hck, Instr.findKey, run_underlying hd2, e1, Sem.run_pure, e3', Option.map_some, Option.getD_some, Instr.keyThatStays, e6, if_true]
            exact Yj hh (by simp)
          · have hj : j < ces.size := (Array.getElem?_eq_some_iff.1 e3').1
            have he':ces[j]=e':=by rw [Array.getElem?_eq_getElem hj] at e3';injection e3'
            have:(ces.modify j fun e=>{ e with key:=vi,val:=vv }).toList=ces.toList.set j { e' with key:=vi,val:=vv }:=by
              apply List.ext_getElem?
              intro q
              rw [Array.getElem?_toList,Array.getElem?_modify,List.getElem?_set,Array.getElem?_toList]
              by_cases hq:j=q
              · subst hq;rw [e3'];simp [hj]
              · simp [hq]
            rw [this]
            exact hes.set hi hv e5
        · rename_i hf0
          have hf:=hs.find hf0
          simp only at hf
          have e1:=YF hkd hi hf hes
          simp only at e1
          refine ⟨_,?_,Yz hR hm (by rw [hg];rfl) ee hh (o':=.map (ces.push { key:=vi,val:=vv,born:=clock }) (clock+1)) (by simp) fun w' hw'=>⟨rfl,_,_,_,hw',?_,hs.push hf0⟩⟩
          · simp only [Instr.mapUpdate, Sem.run_bind, run_underlying hd, Result.andThen_ok, QZ hh (by simp), hck, Instr.findKey, run_underlying hd2, e1, Sem.run_pure]
            exact Yj hh (by simp)
          · rw [Array.toList_push]
            exact hes.append ⟨_,_,rfl,hi,hv,rfl,rfl⟩
        · cases ee
      · cases ee
    · cases ee
  · cases ee
include hT in
theorem mapDel_ok {t t2 k e ty : Nat} {m i : AV} {vm vi : Value} {h h' : H} {w : World} (ht : (T t).kd = .map k e) (hR : Rel μ h w) (ee : Xa T k m i h = some h') (hm : m.rel μ vm) (hi : i.rel μ vi) :
    ∃ w',(Builtin.delete_ #[t,t2] ty #[vm,vi]).run P w=.ok (.tuple #[]) w'∧Post μ h w μ h' w':=by
  obtain ⟨_,hd,rfl⟩:=QJ hT ht rfl
  unfold Xa at ee
  split at ee
  · rename_i hc
    obtain ⟨d,hd2,hkd⟩:=QJ hT (t:=k) rfl (by revert hc;cases (T k).kd <;> simp [Kd.scalar,Kd.known])
    have start:∀ (x:Value),(Builtin.delete_ #[t,t2] ty #[x,vi])=(do
        let .map keyType _ ← underlying t | stuck "delete: map type expected"
        match x with
        | .map none=>Instr.checkKey true 10000 keyType vi
        | .map (some r) =>
          let .map es clock ← getObj r | stuck "delete: map expected"
          Instr.checkKey es.isEmpty 10000 keyType vi
          match ← Instr.findKey keyType vi es.toList with
          | some (i,_)=>setObj r (.map (es.eraseIdxIfInBounds i) clock)
          | none=>setObj r (.map es clock)
        | _=>stuck "delete: map expected"
        pure (.tuple #[])):=fun x=>rfl
    split at ee
    · injection ee with ee; subst ee
      simp only [AV.rel] at hm;subst hm
      refine ⟨w,?_,Post.refl hR⟩
      rw [start]
      simp only [Sem.run_bind,run_underlying hd,Result.andThen_ok,Wc (P:=P) hd2 hkd hc true vi w,Sem.run_pure]
    · rename_i id
      simp only [AV.rel] at hm
      obtain ⟨b,hm,rfl⟩:=hm
      split at ee
      · rename_i es clock hg
        have hb:=hR.blk id b 0 hm
        rw [hg] at hb
        obtain ⟨_,ces,hh,hes⟩:=hb
        have hck:=Wc (P:=P) hd2 hkd hc ces.isEmpty vi w
        split at ee
        · rename_i j v0 n hf
          obtain ⟨e',e1,e2,e3,_,e5,e6⟩:=YF hkd hi hf hes
          rw [Nat.sub_zero,Array.getElem?_toList] at e3
          have hj:j < ces.size:=(Array.getElem?_eq_some_iff.1 e3).1
          refine ⟨_,?_,Yz hR hm (by rw [hg];rfl) ee hh (o':=.map (ces.eraseIdxIfInBounds j) clock) (by simp) fun w' hw'=>⟨rfl,_,hw',?_⟩⟩
          · rw [start]
            simp only [Sem.run_bind,run_underlying hd,Result.andThen_ok,QZ hh (by simp),hck,Instr.findKey,run_underlying hd2,e1,Sem.run_pure,Yj hh (by simp)]
          · rw [Qdg, Array.eraseIdxIfInBounds, dif_pos hj, Array.toList_eraseIdx]
            exact hes.erase
        · rename_i hf
          have e1:=YF hkd hi hf hes
          simp only at e1
          refine ⟨_,?_,Yz hR hm (by rw [hg];rfl) ee hh (o':=.map ces clock) (by simp) fun w' hw'=>⟨rfl,_,hw',hes⟩⟩
          rw [start]
          simp only [Sem.run_bind,run_underlying hd,Result.andThen_ok,QZ hh (by simp),hck,Instr.findKey,run_underlying hd2,e1,Sem.run_pure,Yj hh (by simp)]
        · cases ee
      · rename_i es0 hg
        have hb:=hR.blk id b 0 hm
        rw [hg] at hb
        obtain ⟨_,es,clock,ces,hh,hes,hs⟩:=hb
        have hck:=Wc (P:=P) hd2 hkd hc ces.isEmpty vi w
        split at ee
        · rename_i v0 hf0
          obtain ⟨j,n,hf,hj0⟩:=hs.find hf0
          obtain ⟨e',e1,e2,e3,_,e5,e6⟩:=YF hkd hi hf hes
          rw [Nat.sub_zero,Array.getElem?_toList] at e3
          have hj:j < ces.size:=(Array.getElem?_eq_some_iff.1 e3).1
          refine ⟨_,?_,Yz hR hm (by rw [hg];rfl) ee hh (o':=.map (ces.eraseIdxIfInBounds j) clock) (by simp) fun w' hw'=>⟨rfl,_,_,_,hw',?_,hs.erase hf0 hj0⟩⟩
          · rw [start]
            simp only [Sem.run_bind,run_underlying hd,Result.andThen_ok,QZ hh (by simp),hck,Instr.findKey,run_underlying hd2,e1,Sem.run_pure,Yj hh (by simp)]
          · rw [Array.eraseIdxIfInBounds, dif_pos hj, Array.toList_eraseIdx]
            exact hes.erase
        · rename_i hf0
          have hf:=hs.find hf0
          simp only at hf
          have e1:=YF hkd hi hf hes
          simp only at e1
          refine ⟨_,?_,Yz hR hm (by rw [hg];rfl) ee hh (o':=.map ces clock) (by simp) fun w' hw'=>⟨rfl,_,_,_,hw',hes,hs⟩⟩
          rw [start]
          simp only [Sem.run_bind,run_underlying hd,Result.andThen_ok,QZ hh (by simp),hck,Instr.findKey,run_underlying hd2,e1,Sem.run_pure,Yj hh (by simp)]
        · cases ee
      · cases ee
    · cases ee
  · cases ee
include hT in
theorem lenMap_ok {t ty k e:Nat} {m r:AV} {x:Value} {h:H} {w:World} (ht:(T t).kd=.map k e) (hR:Rel μ h w) (ee:JI m h=some r) (hm:m.rel μ x):∃ v,(Builtin.len_ #[t] ty #[x]).run P w=.ok v w∧r.rel μ v:=by
  obtain ⟨_,hd,rfl⟩:=QJ hT ht rfl
  unfold JI at ee
  split at ee
  · injection ee with ee; subst ee
    simp only [AV.rel] at hm;subst hm
    exact ⟨goInt 0,by simp [Builtin.len_,run_underlying hd],by simp [AV.rel,goInt]⟩
  · rename_i id
    simp only [AV.rel] at hm
    obtain ⟨b,hm,rfl⟩:=hm
    split at ee
    · rename_i es clock hg
      have hb:=hR.blk id b 0 hm
      rw [hg] at hb
      obtain ⟨_,ces,hh,hes⟩:=hb
      injection ee with ee;subst ee
      refine ⟨goInt ces.size,?_,by have:=hes.length;simp at this;simp [AV.rel,goInt,this]⟩
      simp [Builtin.len_,run_underlying hd,QZ hh (by simp)]
    · rename_i es0 hg
      have hb:=hR.blk id b 0 hm
      rw [hg] at hb
      obtain ⟨_,es,clock,ces,hh,hes,hs⟩:=hb
      injection ee with ee;subst ee
      refine ⟨goInt ces.size,?_,by have:=hes.length;simp at this;simp [AV.rel,goInt,this,hs.length]⟩
      simp [Builtin.len_,run_underlying hd,QZ hh (by simp)]
    · cases ee
  · cases ee
end
end Go.Am
namespace Go.Am
open Go
def Xb (h:H):Option (AV × H) :=
  match h.push (.smap []) with
  | some (n,h')=>some (.map n,h')
  | none=>none
def QaV (v:AV) (h:H):Option (AV × H) :=
  match v with
  | .iface t (.map id) => match h.get id with
    | .amap es clock => match h.push (.amap es clock) with
      | some (n,h')=>some (.iface t (.map n),h')
      | none=>none
    | .smap es => match h.push (.smap es) with
      | some (n,h')=>some (.iface t (.map n),h')
      | none=>none
    | _=>none
  | _=>none
def VN (x:AV) (h:H) (k:AV→H→Prop):Prop :=
  match x with
  | .nilm => match h.push (.miter none 0 [] 0) with
    | some (n,h')=>k (.ptr n 0) h'
    | none=>False
  | .map id => match h.get id with
    | .amap _ clock => match h.push (.miter (some id) clock [] clock) with
      | some (n,h')=>k (.ptr n 0) h'
      | none=>False
    | .smap es => ∀ es' clock, YO es es' clock → match h.put id (.amap es' clock) with
      | some h1 => match h1.push (.miter (some id) clock [] clock) with
        | some (n,h')=>k (.ptr n 0) h'
        | none=>False
      | none=>False
    | _=>False
  | _=>False
def N7 : List Nat → Nat → Bool
  | [],_=>false
  | a :: r, n => match Nat.beq a n with
    | true=>true
    | false=>N7 r n
theorem GK:∀ (l:List Nat) (n:Nat),N7 l n=l.contains n
  | [],_=>rfl
  | a :: r, n => by
    unfold N7
    rw [List.contains_cons]
    cases h:Nat.beq a n with
    | true=>rw [Nat.beq_eq] at h;simp [h]
    | false=>simp only;rw [GK r n];have:(n == a)=false:=by { rw [beq_eq_false_iff_ne];intro e;subst e;simp at h };rw [this];simp
def Kj (since:Nat) (seen:List Nat) (es:List (AV × AV × Nat)):List (Option (AV × AV × Nat)) :=
  let left:=es.filter fun e=>!N7 seen e.2.2
  let old:=left.filter fun e=>Nat.blt e.2.2 since
  let new:=left.filter fun e=>!Nat.blt e.2.2 since
  (match old with
    | []=>[none]
    | _=>[])++(old++new).map some
structure Alike (h h':H):Prop where
  next:h'.next=h.next
  base:h'.base=h.base
  get:∀ id,h'.get id=h.get id
theorem Alike.refl (h:H):Alike h h:=⟨rfl,rfl,fun _=>rfl⟩
theorem Rel.alike {μ:Mu} {h h':H} {w:World} (hr:Rel μ h w) (a:Alike h h'):Rel μ h' w:=by
  refine ⟨⟨by rw [a.next,a.base];exact hr.wf.low⟩,fun id b d hm=>?_,fun i j b d e hi hj li lj hb=>?_,fun id b d hm=>?_,hr.cnt,?_⟩
  · rw [a.next];exact hr.dom id b d hm
  · rw [a.get] at li lj; rw [a.base] at hb
    exact hr.inj i j b d e hi hj li lj hb
  · rw [a.get,a.base];exact hr.blk id b d hm
  · exact hr.glb.step a.base (fun id _=>a.get id) fun _ _=>rfl
theorem Post.alike {μ μ':Mu} {h h1 h2:H} {w w':World} (p:Post μ h w μ' h1 w') (a:Alike h1 h2):Post μ h w μ' h2 w':=by
  refine ⟨p.ext,p.rel.alike a,p.frame,⟨by rw [a.next];exact p.grows.next,a.base.trans p.grows.base,fun id hi hm=>(a.get id).trans (p.grows.keep id hi hm),fun id hi=>(a.get id).trans (p.grows.low id hi),fun id hi hl=>?_⟩,fun id b d hi hm hb hl=>?_⟩
  · rw [a.get] at hl;exact p.grows.dead id hi hl
  · rw [a.get] at hl;exact p.fresh id b d hi hm hb hl
def overK (m r:Nat) (es:List (AV × AV × Nat)) (clock:Nat) (h:H) (k:AV→H→Prop):Prop :=
  k (.tuple [.bool false]) h∨∃ es0 h1 h2 h3,YO es0 es clock∧h.put m (.smap es0)=some h1∧h1.put r .dead=some h2∧Alike h2 h3∧k (.tuple [.bool false]) h3
def JT (it:AV) (h:H) (k:AV→H→Prop):Prop :=
  match it with
  | .ptr r 0 => match h.get r with
    | .miter none _ _ _=>k (.tuple [.bool false]) h
    | .miter (some m) since seen last => match h.get m with
      | .amap es clock => match !seen.isEmpty && !es.isEmpty && es.all (fun e => Nat.ble last e.2.2) with
        | true=>False
        | false => ∀ c ∈ Kj since seen es, match c with
          | none=>overK m r es clock h k
          | some (x, v, n) => match h.put r (.miter (some m) since (Qbz seen [n]) clock) with
            | some h'=>k (.tuple [.bool true,x,v]) h'
            | none=>False
      | _=>False
    | _=>False
  | _=>False
def VU (it:AV) (h:H):Option AV :=
  match it with
  | .ptr r 0 => match h.get r with
    | .miter (some m) _ seen last => match h.get m with
      | .amap es clock => match Nat.beq clock last, seen.getLast? with
        | true, some n => match es.find? fun e => Nat.beq e.2.2 n with
          | some (x,v,_)=>some (.tuple [x,v])
          | none=>none
        | _,_=>none
      | _=>none
    | _=>none
  | _=>none
def Kd.isIface:Kd→Bool
  | .iface=>true
  | _=>false
def Wl (T:Ty) (a:Nat) (ok:Bool) (x:AV):Option AV :=
  match (T a).kd.known && !(T a).kd.isIface with
  | true => match x with
    | .iface t v => match Nat.beq t a with
      | true => some (match ok with
        | true=>.tuple [v,.bool true]
        | false=>v)
      | false => match ok with
        | true => match JS T a with
          | some z=>some (.tuple [z,.bool false])
          | none=>none
        | false=>none
    | .nili => match ok with
      | true => match JS T a with
        | some z=>some (.tuple [z,.bool false])
        | none=>none
      | false=>none
    | _=>none
  | false=>none
def mkRow (u8:Bool) (t n:Nat) (zero:List AV):Option Blk :=
  match u8 with
  | true => match zero with
    | [.int .u8 (.ofNat 0)]=>some (.bytes t 0 false ⟨n,0⟩)
    | _=>none
  | false=>some (.cells false t (Ua n zero))
def QaT (T:Ty) (e:Nat) (l c:AV):Option (Blk × (Nat→AV)) :=
  match l,c with
  | .int .i64 (.ofNat l), .int .i64 (.ofNat c) => Bool.rec none (match mkRow (T e).kd.isU8 e c (T e).zero with
    | some k=>some (k,fun i=>.slice i 0 l c (T e).size true)
    | none=>none) (Bool.and (Nat.ble l c) (Nat.ble (Nat.mul (T e).bytes c) 140737488355328))
  | _,_=>none
section
variable {P:Program} {T:Ty} (hT:YN P T) {μ:Mu}
theorem Vj {w:World} {o:Obj}:(newObj o).run P w=.ok w.heap.size { w with heap:=w.heap.push o }:=rfl
theorem WI {h h':H} {w:World} {n:Nat} {k:Blk} {o:Obj} (hR:Rel μ h w) (hp:h.push k=some (n,h')) (ho:∀ c e f,o≠.cells c e f) (hk:∀ (μ':Mu) (w':World),Le μ μ'→w'.heap[w.heap.size]?=some o→BlkRel μ' w' w.heap.size 0 k) :
    ∃ μ',μ' n=some (w.heap.size,0)∧Post μ h w μ' h' { w with heap:=w.heap.push o }:=by
  have hle:Le μ (upd μ h.next (w.heap.size,0) 0):=Un _ _ fun p hm=>by have:=(hR.dom _ p.1 p.2 hm).1;omega
  obtain ⟨rfl,hpost⟩:=Xr (s:=0) (o:=o) (w':={ w with heap:=w.heap.push o }) hR hp rfl rfl rfl rfl (fun c t f e=>absurd e (ho c t f)) (hk _ _ hle (by simp))
  exact ⟨_,Ze _ _ _ _,hpost⟩
theorem makeMap_ok {t:TypeId} {h h':H} {w:World} {r:AV} (hR:Rel μ h w) (e:Xb h=some (r,h')):∃ v w' μ',(Instr.makeMap t none).run P w=.ok v w'∧r.rel μ' v∧Post μ h w μ' h' w':=by
  unfold Xb at e
  split at e
  · rename_i n h1 hp
    injection e with e;injection e with e1 e2;subst e1 e2
    obtain ⟨μ',m,hpost⟩:=WI hR hp (o:=.map #[] 0) (by simp) fun μ' w' _ hw=>⟨rfl,[],0,_,hw,rfl,⟨.refl _,by simp,by simp,by simp⟩⟩
    exact ⟨.map (some w.heap.size),_,μ',rfl,by simp only [AV.rel];exact ⟨_,m,rfl⟩,hpost⟩
  · cases e
theorem QbU {h h' : H} {w : World} {a r : AV} {x : Value} (hR : Rel μ h w) (e : QaV a h = some (r, h')) (ha : a.rel μ x) : ∃ v w' μ', (Extern.MapsClone.clone #[x]).run P w = .ok v w' ∧ r.rel μ' v ∧ Post μ h w μ' h' w' := by
  unfold QaV at e
  split at e
  · rename_i t id
    simp only [AV.rel] at ha
    obtain ⟨y,rfl,b,hm,rfl⟩:=ha
    split at e
    · rename_i es clock hg
      have hb:=hR.blk id b 0 hm
      rw [hg] at hb
      obtain ⟨_,ces,hh,hes⟩:=hb
      split at e
      · rename_i n h1 hp
        injection e with e;injection e with e1 e2;subst e1 e2
        obtain ⟨μ',m,hpost⟩:=WI hR hp (o:=.map ces clock) (by simp) fun μ' w' hle hw=>⟨rfl,_,hw,hes.mono hle⟩
        refine ⟨.iface t (.map (some w.heap.size)),_,μ',?_,by simp only [AV.rel];exact ⟨_,rfl,_,m,rfl⟩,hpost⟩
        have e0:Extern.MapsClone.clone #[.iface t (.map (some b))]=(do
            let .map entries clock ← getObj b | stuck "maps.clone: a map expected"
            pure (.iface t (.map (some (← newObj (.map entries clock)))))):=rfl
        rw [e0]
        simp only [Sem.run_bind,QZ hh (by simp),Result.andThen_ok,Vj,Sem.run_pure]
      · cases e
    · rename_i es0 hg
      have hb:=hR.blk id b 0 hm
      rw [hg] at hb
      obtain ⟨_,es,clock,ces,hh,hes,hs⟩:=hb
      split at e
      · rename_i n h1 hp
        injection e with e;injection e with e1 e2;subst e1 e2
        obtain ⟨μ',m,hpost⟩:=WI hR hp (o:=.map ces clock) (by simp) fun μ' w' hle hw=>⟨rfl,_,_,_,hw,hes.mono hle,hs⟩
        refine ⟨.iface t (.map (some w.heap.size)),_,μ',?_,by simp only [AV.rel];exact ⟨_,rfl,_,m,rfl⟩,hpost⟩
        have e0:Extern.MapsClone.clone #[.iface t (.map (some b))]=(do
            let .map entries clock ← getObj b | stuck "maps.clone: a map expected"
            pure (.iface t (.map (some (← newObj (.map entries clock)))))):=rfl
        rw [e0]
        simp only [Sem.run_bind,QZ hh (by simp),Result.andThen_ok,Vj,Sem.run_pure]
      · cases e
    · cases e
  · cases e
include hT in
theorem range_ok {t k v0 : TypeId} {h : H} {w : World} {K : AV → H → Prop} {a : AV} {x : Value} (ht : (T t).kd = .map k v0) (hR : Rel μ h w) (e : VN a h K) (ha : a.rel μ x) : ∃ r h' v w' μ', K r h' ∧ (Instr.range t x).run P w = .ok v w' ∧ r.rel μ' v ∧ Post μ h w μ' h' w' := by
  obtain ⟨_,hd,rfl⟩:=QJ hT ht rfl
  unfold VN at e
  split at e
  · simp only [AV.rel] at ha; subst ha
    split at e
    · rename_i n h1 hp
      obtain ⟨μ',m,hpost⟩:=WI hR hp (o:=.mapIter none 0 #[] 0) (by simp) fun μ' w' hle hw=>⟨rfl,_,hw,rfl⟩
      refine ⟨_,_,.pointer (some ⟨w.heap.size,0,none⟩),_,μ',e,?_,by simp only [AV.rel];exact ⟨_,0,m,rfl⟩,hpost⟩
      simp only [Instr.range,Sem.run_bind,run_underlying hd,Result.andThen_ok,Sem.run_pure,Vj]
    · exact e.elim
  · rename_i id
    simp only [AV.rel] at ha
    obtain ⟨b,hm,rfl⟩:=ha
    split at e
    · rename_i es clock hg
      have hb:=hR.blk id b 0 hm
      rw [hg] at hb
      obtain ⟨_,ces,hh,hes⟩:=hb
      split at e
      · rename_i n h1 hp
        obtain ⟨μ',m,hpost⟩:=WI hR hp (o:=.mapIter (some b) clock #[] clock) (by simp) fun μ' w' hle hw=>⟨rfl,_,hw,_,(hle _ _ hm).1,rfl⟩
        refine ⟨_,_,.pointer (some ⟨w.heap.size,0,none⟩),_,μ',e,?_,by simp only [AV.rel];exact ⟨_,0,m,rfl⟩,hpost⟩
        simp only [Instr.range,Sem.run_bind,run_underlying hd,Result.andThen_ok,Sem.run_pure,Vj,QZ hh (by simp)]
      · exact e.elim
    · rename_i es0 hg
      have hb:=hR.blk id b 0 hm
      rw [hg] at hb
      obtain ⟨_,es,clock,ces,hh,hes,hs⟩:=hb
      have e:=e es clock hs
      split at e
      · rename_i h1 hp1
        have p1:Post μ h w μ h1 w:=GA hR hp1 hm (by rw [hg];rfl) ⟨rfl,_,hh,hes⟩
        split at e
        · rename_i n h2 hp
          obtain ⟨μ',m,hpost⟩:=WI p1.rel hp (o:=.mapIter (some b) clock #[] clock) (by simp) fun μ' w' hle hw=>⟨rfl,_,hw,_,(hle _ _ hm).1,rfl⟩
          refine ⟨_,_,.pointer (some ⟨w.heap.size,0,none⟩),_,μ',e,?_,by simp only [AV.rel];exact ⟨_,0,m,rfl⟩,p1.trans hpost⟩
          simp only [Instr.range,Sem.run_bind,run_underlying hd,Result.andThen_ok,Sem.run_pure,Vj,QZ hh (by simp)]
        · exact e.elim
      · exact e.elim
    · exact e.elim
  · exact e.elim
theorem EsRel.filter {p:AV × AV × Nat→Bool} {q:MapEntry→Bool} (hpq:∀ k v n (e:MapEntry),e.born=n→p (k,v,n)=q e):∀ {es:List (AV × AV × Nat)} {l:List MapEntry},EsRel μ es l→EsRel μ (es.filter p) (l.filter q)
  | [],_,h=>by rw [show _=[] from h];rfl
  | (k, v, n) :: es, l, h => by
    obtain ⟨e,l',rfl,h2,h3,h4,h5⟩:=h
    simp only [List.filter_cons,hpq k v n e h4]
    split
    · exact ⟨e,_,rfl,h2,h3,h4,EsRel.filter hpq h5⟩
    · exact EsRel.filter hpq h5
theorem EsRel.all {p:AV × AV × Nat→Bool} {q:MapEntry→Bool} (hpq:∀ k v n (e:MapEntry),e.born=n→p (k,v,n)=q e):∀ {es:List (AV × AV × Nat)} {l:List MapEntry},EsRel μ es l→es.all p=l.all q
  | [],_,h=>by rw [show _=[] from h];rfl
  | (k, v, n) :: es, l, h => by
    obtain ⟨e,l',rfl,h2,h3,h4,h5⟩:=h
    simp only [List.all_cons,hpq k v n e h4,EsRel.all hpq h5]
theorem EsRel.empty {es:List (AV × AV × Nat)} {l:List MapEntry} (h:EsRel μ es l):es.isEmpty=l.isEmpty:=by
  have:=h.length
  cases es <;> cases l <;> simp at this <;> rfl
theorem EsRel.find {p:AV × AV × Nat→Bool} {q:MapEntry→Bool} (hpq:∀ k v n (e:MapEntry),e.born=n→p (k,v,n)=q e):∀ {es:List (AV × AV × Nat)} {l:List MapEntry},EsRel μ es l→∀ {k v:AV} {n:Nat},es.find? p=some (k,v,n)→∃ e,l.find? q=some e∧k.rel μ e.key∧v.rel μ e.val
  | [],_,_,_,_,_,hf=>by simp at hf
  | (k, v, n) :: es, l, h, k', v', n', hf => by
    obtain ⟨e,l',rfl,h2,h3,h4,h5⟩:=h
    simp only [List.find?_cons,hpq k v n e h4] at hf ⊢
    split at hf
    · rename_i hq; injection hf with hf; injection hf with e1 e2; injection e2 with e2 e3; subst e1 e2
      exact ⟨e,rfl,h2,h3⟩
    · exact EsRel.find hpq h5 hf
theorem next_ok {h : H} {w : World} {it : AV} {x : Value} {k : AV → H → Prop} {ty : TypeId} (hR : Rel μ h w) (e : JT it h k) (ha : it.rel μ x) :
    ∃ r h' v w',k r h'∧(Instr.next x false ty).run P w=.ok v w'∧r.rel μ v∧Post μ h w μ h' w':=by
  have over:(AV.tuple [.bool false]).rel μ (.tuple #[.bool false]):=by simp only [AV.rel];exact ⟨_,rfl,AV.relL_cons_cons.2 ⟨by simp [AV.rel],AV.relL_nil.2 rfl⟩⟩
  unfold JT at e
  split at e
  · rename_i r
    simp only [AV.rel] at ha
    obtain ⟨b,d,hm,rfl⟩:=ha
    have hb:=hR.blk r b d hm
    split at e
    · rename_i hg
      rw [hg] at hb
      obtain ⟨rfl,cm,hh,hmid⟩:=hb
      have hmid:cm=none:=hmid
      subst hmid
      refine ⟨_,h,.tuple #[.bool false],w,e,?_,over,Post.refl hR⟩
      simp only [Instr.next,Nat.zero_add,Sem.run_bind,QZ hh (by simp),Result.andThen_ok,Sem.run_pure]
    · rename_i m since seen last hg
      rw [hg] at hb
      obtain ⟨rfl,cm,hh,bm,hmm,rfl⟩:=hb
      split at e
      · rename_i es clock hgm
        have hbm:=hR.blk m bm 0 hmm
        rw [hgm] at hbm
        obtain ⟨_,ces,hhm,hes⟩:=hbm
        split at e
        · exact e.elim
        · rename_i hstale
          obtain ⟨left,hleft⟩:∃ left,left=ces.filter fun e=>!seen.toArray.contains e.born:=⟨_,rfl⟩
          obtain ⟨old,hold⟩:∃ old,old=left.filter (·.born < since):=⟨_,rfl⟩
          obtain ⟨new,hnew⟩:∃ new,new=left.filter (·.born ≥ since):=⟨_,rfl⟩
          obtain ⟨cands,hcands⟩:∃ cands,cands=(if old.isEmpty then #[none] else #[])++(old++new).map some:=⟨_,rfl⟩
          have rl:EsRel μ (es.filter fun e=>!N7 seen e.2.2) left.toList:=by
            rw [hleft,Array.toList_filter]
            exact EsRel.filter (fun k v n e he=>by subst he;simp only [GK];simp) hes
          have ro:EsRel μ ((es.filter fun e=>!N7 seen e.2.2).filter fun e=>Nat.blt e.2.2 since) old.toList:=by
            rw [hold,Array.toList_filter]
            refine EsRel.filter (fun k v n e he=>?_) rl
            subst he;rw [Bool.eq_iff_iff,QH];simp
          have rn:EsRel μ ((es.filter fun e=>!N7 seen e.2.2).filter fun e=>!Nat.blt e.2.2 since) new.toList:=by
            rw [hnew,Array.toList_filter]
            refine EsRel.filter (fun k v n e he=>?_) rl
            subst he;rw [Bool.eq_iff_iff];simp only [Bool.not_eq_true',decide_eq_true_eq]
            rw [← Bool.not_eq_true,QH];omega
          have hst:(!seen.toArray.isEmpty && !ces.isEmpty && ces.all (·.born ≥ last))=false:=by
            rw [← hstale,← Array.isEmpty_toList,← Array.isEmpty_toList,← Array.all_toList,← hes.empty]
            rw [EsRel.all (q:=fun e:MapEntry=>decide (e.born ≥ last)) (p:=fun e=>Nat.ble last e.2.2) (fun k v n e he=>by subst he;rw [Bool.eq_iff_iff,Qk];simp) hes]
          obtain ⟨A,B,hac,ro,rn⟩:∃ A B,Kj since seen es=(match A with | []=>[none] | _=>[])++(A++B).map some∧EsRel μ A old.toList∧EsRel μ B new.toList:=⟨_,_,rfl,ro,rn⟩
          have happ:=ro.append rn
          have h1:=ro.length;have h2:=rn.length
          have h3:=ro.empty
          simp only [Array.length_toList] at h1 h2
          have len:cands.size=(Kj since seen es).length:=by
            rw [hcands,hac]
            cases A with
            | nil =>
              have:old.isEmpty=true:=by rw [← Array.isEmpty_toList,← h3];rfl
              simp only [this,if_true,Array.size_append,Array.size_map,h1,h2,List.length_append,List.length_map];rfl
            | cons z zs =>
              have:old.isEmpty=false:=by rw [← Array.isEmpty_toList,← h3];rfl
              simp only [this,Bool.false_eq_true,if_false,Array.size_append,Array.size_map,h1,h2,List.length_append,List.length_map];rfl
          have pos:0 < cands.size:=by
            rw [len,hac]
            cases A <;> simp
          have tail:∀ (q:Nat) (c:Option (AV × AV × Nat)),((A++B).map some)[q]?=some c→match c with
              | none=>False
              | some (x,v,n)=>∃ e,((old++new).map some)[q]?=some (some e)∧x.rel μ e.key∧v.rel μ e.val∧e.born=n:=by
            intro q c hc
            rw [List.getElem?_map] at hc
            cases hz:(A++B)[q]? with
            | none=>rw [hz] at hc;cases hc
            | some z =>
              obtain ⟨x,v,n⟩:=z
              rw [hz] at hc;injection hc with hc;subst hc
              obtain ⟨e,e1,e2,e3,e4⟩:=happ.get hz
              refine ⟨e,?_,e2,e3,e4⟩
              rw [Array.getElem?_map,← Array.getElem?_toList,Array.toList_append,e1];rfl
          have at_:∀ i,i < cands.size→∃ c,(Kj since seen es)[i]?=some c∧match c with
              | none=>cands[i]?=some none
              | some (x,v,n)=>∃ e,cands[i]?=some (some e)∧x.rel μ e.key∧v.rel μ e.val∧e.born=n:=by
            intro i hi
            have hi':i < (Kj since seen es).length:=by rw [← len];exact hi
            obtain ⟨c,hcv⟩:∃ c,(Kj since seen es)[i]?=some c:=⟨_,List.getElem?_eq_getElem hi'⟩
            refine ⟨c,hcv,?_⟩
            rw [hac] at hcv
            rw [hcands]
            cases A with
            | nil =>
              have hoe:old.isEmpty=true:=by rw [← Array.isEmpty_toList,← h3];rfl
              simp only [hoe,if_true]
              cases i with
              | zero =>
                simp at hcv;subst hcv
                show (#[none]++(old++new).map some)[0]?=some none
                rw [Array.getElem?_append_left (by simp)];rfl
              | succ i =>
                have hcv:((([]:List (AV × AV × Nat))++B).map some)[i]?=some c:=by simpa using hcv
                have:=tail i c hcv
                cases c with
                | none=>exact this.elim
                | some z =>
                  obtain ⟨x,v,n⟩:=z
                  obtain ⟨e,e1,e2⟩:=this
                  refine ⟨e,?_,e2⟩
                  rw [Array.getElem?_append_right (by simp)];simpa using e1
            | cons z zs =>
              have hoe:old.isEmpty=false:=by rw [← Array.isEmpty_toList,← h3];rfl
              simp only [hoe,Bool.false_eq_true,if_false]
              have hcv:((z::zs++B).map some)[i]?=some c:=hcv
              have:=tail i c hcv
              cases c with
              | none=>exact this.elim
              | some z =>
                obtain ⟨x,v,n⟩:=z
                obtain ⟨e,e1,e2⟩:=this
                refine ⟨e,?_,e2⟩
                simpa using e1
          obtain ⟨i,w1,hi,hw1,hch⟩:∃ i w1,i < cands.size∧(∃ n,w1={ w with drawn:=n })∧(choose (.mapNext cands.size)).run P w=.ok i w1:=by
            by_cases hf:cands.size≤1
            · refine ⟨0, w, pos, ⟨w.drawn, rfl⟩, ?_⟩
              show Sem.run P (.choose _ .pure) w=_
              simp [Sem.run,Question.forced,hf]
            · refine ⟨(Question.mapNext cands.size).cut (w.tape w.drawn (.mapNext cands.size)), { w with drawn := w.drawn + 1 }, Nat.mod_lt _ pos, ⟨_, rfl⟩, ?_⟩
              show Sem.run P (.choose _ .pure) w=_
              simp [Sem.run,Question.forced,hf]
          obtain ⟨n,rfl⟩:=hw1
          obtain ⟨c,hc1,hc2⟩:=at_ i hi
          have hk:=e c (List.mem_of_getElem? hc1)
          have run:(Instr.next (.pointer (some ⟨b,0+0,none⟩)) false ty).run P w=(match cands[i]? with
              | some (some e)=>(do setObj b (.mapIter (some bm) since (seen.toArray.push e.born) clock);pure (.tuple #[.bool true,e.key,e.val]):Sem Value)
              | some none=>pure (.tuple #[.bool false])
              | none=>stuck "Next: no such candidate").run P { w with drawn:=n }:=by
            simp only [Instr.next,Nat.zero_add,Sem.run_bind,QZ hh (by simp),Result.andThen_ok,QZ hhm (by simp),hst,Bool.false_eq_true,if_false]
            rw [← hleft,← hold,← hnew,← hcands,hch];rfl
          have hp0:=Post.drew hR n
          cases c with
          | none =>
            simp only at hc2 hk
            rcases hk with hk | ⟨es0,h1,h2,h3,hs,hpm,hpr,hal,hk⟩
            · refine ⟨_, h, _, _, hk, ?_, over, hp0⟩
              rw [run,hc2];rfl
            · have p1 : Post μ h { w with drawn := n } μ h1 { w with drawn := n } := GA hp0.rel hpm hmm (by rw [hgm]; rfl) ⟨rfl, es, clock, ces, hhm, hes, hs⟩
              have hgr:h1.get r=h.get r:=by
                rw [(H.put_some hpm hR.wf).2.2.2.2.2 r,if_neg]
                intro er;subst er;rw [hg] at hgm;cases hgm
              have p2:Post μ h1 { w with drawn:=n } μ h2 { w with drawn:=n }:=GA p1.rel hpr hm (by rw [hgr,hg];rfl) trivial
              refine ⟨_,h3,_,_,hk,?_,over,(hp0.trans (p1.trans p2)).alike hal⟩
              rw [run,hc2];rfl
          | some z =>
            obtain ⟨x,v,n'⟩:=z
            obtain ⟨e',e1,e2,e3,e4⟩:=hc2
            simp only at hk
            split at hk
            · rename_i h' hput
              have hh':({ w with drawn:=n }:World).heap[b]?=some (.mapIter (some bm) since seen.toArray last):=hh
              refine ⟨_,h',.tuple #[.bool true,e'.key,e'.val],_,hk,?_,?_,hp0.trans (Yz hp0.rel hm (by rw [hg];rfl) hput hh' (o':=.mapIter (some bm) since (seen.toArray.push e'.born) clock) (by simp) fun w' hw'=>⟨rfl,_,?_,bm,hmm,rfl⟩)⟩
              · rw [run, e1]
                simp only [Sem.run_bind,Yj hh' (by simp),Result.andThen_ok,Sem.run_pure]
              · simp only [AV.rel]
                exact ⟨_,rfl,AV.relL_cons_cons.2 ⟨by simp [AV.rel],AV.relL_cons_cons.2 ⟨e2,AV.relL_cons_cons.2 ⟨e3,AV.relL_nil.2 rfl⟩⟩⟩⟩
              · rw [hw',KL,e4];simp
            · exact hk.elim
      · exact e.elim
    · exact e.elim
  · exact e.elim
theorem entry_ok {h : H} {w : World} {it r : AV} {x : Value} (hR : Rel μ h w) (e : VU it h = some r) (ha : it.rel μ x) : ∃ v, (Instr.entry x).run P w = .ok v w ∧ r.rel μ v := by
  unfold VU at e
  split at e
  · rename_i i
    simp only [AV.rel] at ha
    obtain ⟨b,d,hm,rfl⟩:=ha
    have hb:=hR.blk i b d hm
    split at e
    · rename_i m since seen last hg
      rw [hg] at hb
      obtain ⟨rfl,cm,hh,bm,hmm,rfl⟩:=hb
      split at e
      · rename_i es clock hgm
        have hbm:=hR.blk m bm 0 hmm
        rw [hgm] at hbm
        obtain ⟨_,ces,hhm,hes⟩:=hbm
        split at e
        · rename_i n hclock hlast
          rw [Nat.beq_eq] at hclock;subst hclock
          split at e
          · rename_i k v q hfind
            injection e with e;subst e
            obtain ⟨e',f1,f2,f3⟩:=EsRel.find (q:=fun e:MapEntry=>e.born == n) (fun k v n' e he=>by subst he;rw [Bool.eq_iff_iff,Nat.beq_eq,beq_iff_eq]) hes hfind
            refine ⟨.tuple #[e'.key,e'.val],?_,by simp only [AV.rel];exact ⟨_,rfl,AV.relL_cons_cons.2 ⟨f2,AV.relL_cons_cons.2 ⟨f3,AV.relL_nil.2 rfl⟩⟩⟩⟩
            have hback:seen.toArray.back?=some n:=by rw [← hlast];simp
            have f1':ces.find? (fun e=>e.born == n)=some e':=by rw [← Array.find?_toList];exact f1
            simp only [Instr.entry,Nat.zero_add,Sem.run_bind,QZ hh (by simp),Result.andThen_ok,hback,QZ hhm (by simp),bne_self_eq_false,Bool.false_eq_true,if_false,f1',Sem.run_pure]
          · cases e
        · cases e
      · cases e
    · cases e
  · cases e
include hT in
theorem assert_ok {xt a : TypeId} {ok : Bool} {x r : AV} {y : Value} (e : Wl T a ok x = some r) (hx : x.rel μ y) : ∃ v, Yld P (Instr.typeAssert y xt a ok) v ∧ r.rel μ v := by
  unfold Wl at e
  split at e
  · rename_i hc
    rw [Bool.and_eq_true,Bool.not_eq_true'] at hc
    obtain ⟨d,hd,hk⟩:=QJ hT (t:=a) rfl hc.1
    have hni:∀ ms,d≠.interface ms:=fun ms e=>by
      subst e
      have h1:=hc.1;have h2:=hc.2
      revert hk h1 h2
      cases (T a).kd <;> simp [Jr,Kd.isIface,Kd.known]
    have zero:∀ {z:AV},JS T a=some z→∃ u,(∀ w,(zeroValue a).run P w=.ok u w)∧z.rel μ u:=fun hz=>by
      obtain ⟨u,h1,h2⟩:=QcF (μ:=μ) hT hc.1 hz default
      obtain ⟨i,zz,i1,_,_,i2,_⟩:=(hT a hc.1).info
      have:∀ w,(zeroValue a).run P w=.ok zz w:=fun w=>by simp [zeroValue,typeInfo,i1,i2]
      rw [this] at h1;injection h1 with h1;subst h1
      exact ⟨_,this,h2⟩
    split at e
    · rename_i t v
      simp only [AV.rel] at hx
      obtain ⟨u,rfl,hu⟩:=hx
      split at e
      · rename_i ht
        rw [Nat.beq_eq] at ht;subst ht
        injection e with e;subst e
        refine ⟨if ok then .tuple #[u,.bool true] else u,fun w=>?_,?_⟩
        · cases d <;> first | exact absurd rfl (hni _) | simp [Instr.typeAssert,run_underlying hd]
        · cases ok with
          | false=>exact hu
          | true=>simp only [AV.rel];exact ⟨_,rfl,AV.relL_cons_cons.2 ⟨hu,AV.relL_cons_cons.2 ⟨by simp [AV.rel],AV.relL_nil.2 rfl⟩⟩⟩
      · rename_i ht
        have ht':¬ t=a:=fun h=>by subst h;simp at ht
        split at e
        · split at e
          · rename_i z hz
            injection e with e;subst e
            obtain ⟨q,h1,h2⟩:=zero hz
            refine ⟨.tuple #[q,.bool false],fun w=>?_,by simp only [AV.rel];exact ⟨_,rfl,AV.relL_cons_cons.2 ⟨h2,AV.relL_cons_cons.2 ⟨by simp [AV.rel],AV.relL_nil.2 rfl⟩⟩⟩⟩
            cases d <;> first | exact absurd rfl (hni _) | simp [Instr.typeAssert,run_underlying hd,ht',h1]
          · cases e
        · cases e
    · simp only [AV.rel] at hx; subst hx
      split at e
      · split at e
        · rename_i z hz
          injection e with e;subst e
          obtain ⟨q,h1,h2⟩:=zero hz
          refine ⟨.tuple #[q,.bool false],fun w=>?_,by simp only [AV.rel];exact ⟨_,rfl,AV.relL_cons_cons.2 ⟨h2,AV.relL_cons_cons.2 ⟨by simp [AV.rel],AV.relL_nil.2 rfl⟩⟩⟩⟩
          cases d <;> first | exact absurd rfl (hni _) | simp [Instr.typeAssert,run_underlying hd,h1]
        · cases e
      · cases e
    · cases e
  · cases e
theorem zeros_num (n:Nat):Str.of (List.replicate n 0)=⟨n,0⟩:=by
  have:∀ n,Str.num (List.replicate n (0:UInt8))=0:=fun n=>by
    induction n with
    | zero=>rfl
    | succ n ih=>rw [List.replicate_succ,Str.num_cons,ih];simp
  simp [Str.of,this]
include hT in
theorem makeSl_ok {t e : TypeId} {l c : AV} {vl vc : Value} {k : Blk} {f : Nat → AV} (ht : (T t).kd = .slice e) (hk : (T e).kd.known = true) (hz0 : (T e).size ≠ 0) (hbp : 0 < (T e).bytes) (hzl : (T e).zero.length = (T e).size)
    (h:QaT T e l c=some (k,f)) (hl:l.rel μ vl) (hc:c.rel μ vc):AOk P μ (Instr.makeSlice t vl vc) k f:=by
  obtain ⟨_,h1,rfl⟩:=QJ hT ht rfl
  unfold QaT at h
  split at h
  · rename_i l c
    simp only [AV.rel] at hl hc;subst hl hc
    rw [Str.brec] at h
    split at h
    · rename_i hb
      have hb:(Nat.ble l c && Nat.ble (Nat.mul (T e).bytes c) 140737488355328)=true:=hb
      rw [Bool.and_eq_true,Qk,Qk,Nat.mul_eq] at hb
      split at h
      · rename_i k' hrow
        injection h with h;injection h with e1 e2;subst e1 e2
        intro w
        obtain ⟨i,z,e1,_,eb,e2,hzr,_⟩:=(hT e hk).info
        have key:∀ w,(zeroValue e).run P w=.ok z w:=fun w=>by simp [zeroValue,typeInfo,e1,e2]
        have hzs:z.cells.size=(T e).size:=by have:=AV.relL_length hzr;rw [← hzl,← this];simp
        obtain ⟨vs,hvs⟩:∃ vs,vs=(Array.range (c * (T e).size)).map ((if c * (T e).size=0 then #[] else z.cells)[· % (if c * (T e).size=0 then (#[]:Array Value) else z.cells).size]!):=⟨_,rfl⟩
        have hvl:vs.size=c * (T e).size:=by rw [hvs];simp
        have hrel:AV.relL μ (Ua c (T e).zero) vs.toList:=by
          rw [hvs]
          split
          · rename_i h0
            have hc0:c=0:=by rcases Nat.mul_eq_zero.1 h0 with h0 | h0;exact h0;exact absurd h0 hz0
            subst hc0;simp;exact AV.relL_nil.2 rfl
          · exact Xg (AV.relL_mono GE _ _ hzr) hzs hz0
        have hnew : k'.live = true ∧ ∀ (μ' : Mu), Le μ μ' → BlkRel μ' { w with heap := w.heap.push (.cells vs e (0, 0)) } w.heap.size 0 k' := by
          unfold mkRow at hrow
          split at hrow
          · split at hrow
            · rename_i hzz
              injection hrow with hrow;subst hrow
              refine ⟨rfl,fun μ' _=>⟨vs,(0,0),List.replicate c 0,by simp,(zeros_num c).symm,fun i x hx=>?_,fun o _ _ h=>by omega,fun _=>.inl rfl⟩⟩
              rw [hzz] at hrel
              have h0:(Ua c [AV.int .u8 (.ofNat 0)])[i]?=some (.int .u8 (.ofNat 0)):=by
                have hi:i < c:=by have:=(List.getElem?_eq_some_iff.1 hx).1;simpa using this
                have:∀ n,Ua n [AV.int .u8 (.ofNat 0)]=List.replicate n (.int .u8 (.ofNat 0)):=fun n=>by
                  induction n with
                  | zero=>rfl
                  | succ n ih=>rw [Jy,ih,List.replicate_succ];rfl
                rw [this];simp [hi]
              obtain ⟨u,hu,hu2⟩:=AV.relL_get hrel i _ h0
              simp only [AV.rel] at hu2
              have hx0:x=0:=by have:=List.mem_of_getElem? hx;simp at this;exact this.2
              subst hx0
              rw [Array.getElem?_toList] at hu
              rw [Nat.zero_add,hu,hu2];rfl
            · cases hrow
          · injection hrow with hrow; subst hrow
            exact ⟨rfl,fun μ' hm=>JE rfl hrel μ' hm⟩
        refine ⟨.slice (some ⟨w.heap.size,0,none⟩) l c,.cells vs e (0,0),{ w with heap:=w.heap.push (.cells vs e (0,0)) },?_,rfl,rfl,rfl,rfl,hnew.2,hnew.1,?_⟩
        · have hc1 : c ≤ 140737488355328 := Nat.le_trans (by have := Nat.mul_le_mul_right c (show 1 ≤ (T e).bytes from hbp); omega) hb.2
          have wc:IntKind.i64.wrap (Int.ofNat c)=Int.ofNat c:=Kn _ _ (by show c < 9223372036854775808;omega)
          have wl:IntKind.i64.wrap (Int.ofNat l)=Int.ofNat l:=Kn _ _ (by show l < 9223372036854775808;omega)
          have hti:∀ w,(typeInfo e).run P w=.ok i w:=fun w=>by simp [typeInfo,e1]
          have c1:(decide (Int.ofNat c < 0) || decide ((i.bytes:Int) * Int.ofNat c > 2 ^ 48))=false:=by
            rw [eb]
            have:((T e).bytes:Int) * Int.ofNat c=(((T e).bytes * c:Nat):Int):=by simp
            rw [this]
            have h2:=hb.2
            simp;omega
          have c2:decide (Int.ofNat l < 0)=false:=by simp
          have c3:decide (Int.ofNat l > Int.ofNat c)=false:=by simp;exact hb.1
          have room:(askRoom (c * i.bytes)).run P w=.ok () w:=by
            have:¬ (c * i.bytes > roomBytes):=by rw [eb,Nat.mul_comm];have:=hb.2;unfold roomBytes;omega
            simp only [askRoom,this,if_false,Sem.run_pure]
          simp only [Instr.makeSlice,Sem.run_bind,run_underlying h1,Result.andThen_ok,asInt,asIntOf,Sem.run_pure,hti,wc,wl,c1,c2,c3,Bool.or_self,Bool.false_eq_true,if_false]
          rw [show (Int.ofNat c).toNat=c from rfl,room]
          simp only [Result.andThen_ok,Q6 hT hk]
          split
          · rename_i h0
            rw [if_pos h0] at hvs
            simp only [Sem.run_bind,Sem.run_pure,Result.andThen_ok,newRow,run_newObj,← hvs];rfl
          · rename_i h0
            rw [if_neg h0] at hvs
            simp only [Sem.run_bind,Sem.run_pure,key w,Result.andThen_ok,newRow,run_newObj,← hvs];rfl
        · refine ⟨_, _, _, rfl, fun m μ' hm hsz => ?_⟩
          simp only [AV.rel];exact ⟨_,_,_,_,_,hm,rfl,.inl rfl,fun _=>rfl,Nat.le_refl _,fun _=>rfl,hb.1,Nat.le_refl _,by rw [hsz,hvl];omega⟩
      · cases h
    · cases h
  · cases h
end
end Go.Am
namespace Go.Am
open Go
def P1a:Type:=Prop
def P1b:Type:=P1a
def P1c:Type:=P1b
def P1d:Type:=P1c
def P1e:Type:=P1d
def P2:Type:=P1e
def fN (m:Nat) (k:Nat→Prop):Prop:=Nat.rec (motive:=fun _=>Prop) (k 0) (fun m _=>k (Nat.succ m)) m
def fI (n:Int) (k:Int→Prop):Prop:=Int.rec (motive:=fun _=>Prop) (fun m=>Nat.rec (motive:=fun _=>Prop) (k (Int.ofNat 0)) (fun m _=>k (Int.ofNat (Nat.succ m))) m) (fun m=>Nat.rec (motive:=fun _=>Prop) (k (Int.negSucc 0)) (fun m _=>k (Int.negSucc (Nat.succ m))) m) n
def fB (b:Bool) (k:Bool→Prop):Prop:=Bool.rec (motive:=fun _=>Prop) (k false) (k true) b
def fS (s:Str) (k:Str→Prop):Prop:=Str.rec (motive:=fun _=>Prop) (fun l v=>fN l fun l=>fN v fun v=>k ⟨l,v⟩) s
def br (c:Bool) (a b:Prop):Prop:=Bool.rec (motive:=fun _=>P2) b a c
def ck (c:Bool) (a:Prop):Prop:=Bool.rec (motive:=fun _=>P2) False a c
def op' {α:Type} (o:Option α) (k:α→Prop):Prop:=Option.rec (motive:=fun _=>P2) False (fun a=>k a) o
theorem Zb (m:Nat) (k:Nat→Prop):fN m k=k m:=by cases m <;> rfl
theorem Qo (n:Int) (k:Int→Prop):fI n k=k n:=by rcases n with m | m <;> cases m <;> rfl
theorem Qg (b:Bool) (k:Bool→Prop):fB b k=k b:=by cases b <;> rfl
theorem Vt (s:Str) (k:Str→Prop):fS s k=k s:=by cases s;simp only [fS,Zb]
theorem Yf (c:Bool) (a b:Prop):br c a b ↔ (c=true∧a)∨(c=false∧b):=by cases c <;> simp [br]
theorem QN (c:Bool) (a:Prop):ck c a ↔ c=true∧a:=by cases c <;> simp [ck]
theorem QX {α:Type} (o:Option α) (k:α→Prop):op' o k ↔ ∃ a,o=some a∧k a:=by cases o <;> simp [op']
def AV.asInt:AV→(IntKind→Int→Prop)→Prop:=@AV.rec (fun _=>(IntKind→Int→Prop)→P2) (fun _=>Unit)
  (fun _=>False) (fun _ _=>False) (fun kk n k=>k kk n) (fun _ _=>False) (fun _=>False) (fun _ _ _=>False) (fun _=>False) (fun _ _ _ _ _ _ _=>False) (fun _=>False) (fun _ _=>False) (fun _ _ _ _ _ _=>False) (fun _=>False) (fun _ _ _ _=>False) (fun _=>False) (fun _ _ _=>False) (fun _ _ _=>False) (fun _ _=>False) (fun _ _ _=>False) () (fun _ _ _ _=>())
def asB:AV→(Bool→Prop)→Prop:=@AV.rec (fun _=>(Bool→Prop)→P2) (fun _=>Unit)
  (fun _=>False) (fun b k=>k b) (fun _ _ _=>False) (fun _ _=>False) (fun _=>False) (fun _ _ _=>False) (fun _=>False) (fun _ _ _ _ _ _ _=>False) (fun _=>False) (fun _ _=>False) (fun _ _ _ _ _ _=>False) (fun _=>False) (fun _ _ _ _=>False) (fun _=>False) (fun _ _ _=>False) (fun _ _ _=>False) (fun _ _=>False) (fun _ _ _=>False) () (fun _ _ _ _=>())
def asS:AV→(Str→Prop)→Prop:=@AV.rec (fun _=>(Str→Prop)→P2) (fun _=>Unit)
  (fun _=>False) (fun _ _=>False) (fun _ _ _=>False) (fun s k=>k s) (fun _=>False) (fun _ _ _=>False) (fun _=>False) (fun _ _ _ _ _ _ _=>False) (fun _=>False) (fun _ _=>False) (fun _ _ _ _ _ _=>False) (fun _=>False) (fun _ _ _ _=>False) (fun _=>False) (fun _ _ _=>False) (fun _ _ _=>False) (fun _ _=>False) (fun _ _ _=>False) () (fun _ _ _ _=>())
def asPtr:AV→(Nat→Nat→Prop)→Prop:=@AV.rec (fun _=>(Nat→Nat→Prop)→P2) (fun _=>Unit)
  (fun _=>False) (fun _ _=>False) (fun _ _ _=>False) (fun _ _=>False) (fun _=>False) (fun i o k=>k i o) (fun _=>False) (fun _ _ _ _ _ _ _=>False) (fun _=>False) (fun _ _=>False) (fun _ _ _ _ _ _=>False) (fun _=>False) (fun _ _ _ _=>False) (fun _=>False) (fun _ _ _=>False) (fun _ _ _=>False) (fun _ _=>False) (fun _ _ _=>False) () (fun _ _ _ _=>())
def Qcy:AV→(Nat→Nat→Prop)→(Nat→Nat→Prop)→Prop:=@AV.rec (fun _=>(Nat→Nat→Prop)→(Nat→Nat→Prop)→P2) (fun _=>Unit)
  (fun _ _=>False) (fun _ _ _=>False) (fun _ _ _ _=>False) (fun _ _ _=>False) (fun _ _=>False) (fun i o k _=>k i o) (fun _ _=>False) (fun _ _ _ _ _ _ _ _=>False) (fun _ _=>False) (fun _ _ _=>False) (fun _ _ _ _ _ _ _=>False) (fun _ _=>False) (fun _ _ _ _ _=>False) (fun _ _=>False) (fun _ _ _ _=>False) (fun _ _ _ _=>False) (fun _ _ _=>False) (fun i o _ k=>k i o) () (fun _ _ _ _=>())
def Gw:AV→Prop→(Nat→Nat→Nat→Nat→Nat→Bool→Prop)→Prop:=@AV.rec (fun _=>Prop→(Nat→Nat→Nat→Nat→Nat→Bool→Prop)→P2) (fun _=>Unit)
  (fun _ _=>False) (fun _ _ _=>False) (fun _ _ _ _=>False) (fun _ _ _=>False) (fun _ _=>False) (fun _ _ _ _=>False) (fun n _=>n) (fun i o l c e x _ k=>k i o l c e x) (fun _ _=>False) (fun _ _ _=>False) (fun _ _ _ _ _ _ _=>False) (fun _ _=>False) (fun _ _ _ _ _=>False) (fun _ _=>False) (fun _ _ _ _=>False) (fun _ _ _ _=>False) (fun _ _ _=>False) (fun _ _ _ _=>False) () (fun _ _ _ _=>())
def asAgg:AV→(List AV→Prop)→Prop:=@AV.rec (fun _=>(List AV→Prop)→P2) (fun _=>Unit)
  (fun _=>False) (fun _ _=>False) (fun _ _ _=>False) (fun _ _=>False) (fun _=>False) (fun _ _ _=>False) (fun _=>False) (fun _ _ _ _ _ _ _=>False) (fun _=>False) (fun _ _=>False) (fun _ _ _ _ _ _=>False) (fun _=>False) (fun _ _ _ _=>False) (fun _=>False) (fun cs _ k=>k cs) (fun _ _ _=>False) (fun _ _=>False) (fun _ _ _=>False) () (fun _ _ _ _=>())
def asTup:AV→(List AV→Prop)→Prop:=@AV.rec (fun _=>(List AV→Prop)→P2) (fun _=>Unit)
  (fun _=>False) (fun _ _=>False) (fun _ _ _=>False) (fun _ _=>False) (fun _=>False) (fun _ _ _=>False) (fun _=>False) (fun _ _ _ _ _ _ _=>False) (fun _=>False) (fun _ _=>False) (fun _ _ _ _ _ _=>False) (fun _=>False) (fun _ _ _ _=>False) (fun _=>False) (fun _ _ _=>False) (fun vs _ k=>k vs) (fun _ _=>False) (fun _ _ _=>False) () (fun _ _ _ _=>())
def Qb:AV:=.tuple []
def ZW:AV→(Bool→Prop)→Prop→Prop:=@AV.rec (fun _=>(Bool→Prop)→Prop→P2) (fun _=>Unit)
  (fun _ _=>False) (fun b k _=>k b) (fun _ _ _ _=>False) (fun _ _ _=>False) (fun _ _=>False) (fun _ _ _ _=>False) (fun _ _=>False) (fun _ _ _ _ _ _ _ _=>False) (fun _ _=>False) (fun _ _ _=>False) (fun _ _ _ _ _ _ _=>False) (fun _ _=>False) (fun _ _ _ _ _=>False) (fun _ _=>False) (fun _ _ _ _=>False) (fun vs _ _ n=>List.rec (motive:=fun _=>Prop) n (fun _ _ _=>False) vs) (fun _ _ _=>False) (fun _ _ _ _=>False) () (fun _ _ _ _=>())
def ZB:AV→Bool:=@AV.rec (fun _=>Bool) (fun _=>Unit)
  false (fun _=>true) (fun _ _=>true) (fun _=>true) true (fun _ _=>true) true (fun _ _ _ _ _ _=>true) true (fun _=>true) (fun _ _ _ _ _=>true) true (fun _ _ _=>true) true (fun _ _=>false) (fun _ _=>false) (fun _=>true) (fun _ _=>true) () (fun _ _ _ _=>())
def ZQ:AV→Nat:=@AV.rec (fun _=>Nat) (fun _=>Unit)
  9 (fun _=>9) (fun _ _=>9) (fun _=>9) 0 (fun _ _=>1) 2 (fun _ _ _ _ _ _=>3) 4 (fun _=>5) (fun _ _ _ _ _=>7) 6 (fun _ _ _=>11) 10 (fun _ _=>9) (fun _ _=>9) (fun _=>9) (fun _ _=>9) () (fun _ _ _ _=>())
theorem D0 {v:AV} {k:IntKind→Int→Prop}:v.asInt k ↔ ∃ kk n,v=.int kk n∧k kk n:=by
  cases v <;> first | (constructor <;> (intro h;first | exact h.elim | (obtain ⟨_,_,h,_⟩:=h;cases h));done) | skip
  constructor
  · intro h;exact ⟨_,_,rfl,h⟩
  · rintro ⟨_,_,h,h2⟩;injection h with e1 e2;subst e1 e2;exact h2
theorem Z7 {v:AV} {k:Bool→Prop}:asB v k ↔ ∃ b,v=.bool b∧k b:=by
  cases v <;> first | (constructor <;> (intro h;first | exact h.elim | (obtain ⟨_,h,_⟩:=h;cases h));done) | skip
  constructor
  · intro h;exact ⟨_,rfl,h⟩
  · rintro ⟨_,h,h2⟩;injection h with e1;subst e1;exact h2
theorem NV {v : AV} {k : Bool → Prop} {n : Prop} : ZW v k n ↔ (∃ b, v = .bool b ∧ k b) ∨ (v = Qb ∧ n) := by
  cases v <;> first | (constructor <;> (intro h;first | exact h.elim | (rcases h with ⟨_,h,_⟩ | ⟨h,_⟩ <;> cases h));done) | skip
  · constructor
    · intro h;exact .inl ⟨_,rfl,h⟩
    · rintro (⟨_, h, h2⟩ | ⟨h, _⟩)
      · injection h with e1;subst e1;exact h2
      · cases h
  · rename_i vs
    cases vs with
    | nil =>
      constructor
      · intro h;exact .inr ⟨rfl,h⟩
      · rintro (⟨_, h, _⟩ | ⟨_, h⟩)
        · cases h
        · exact h
    | cons a t =>
      constructor
      · intro h;exact h.elim
      · rintro (⟨_,h,_⟩ | ⟨h,_⟩) <;> cases h
theorem ZJ {v:AV} {k:Str→Prop}:asS v k ↔ ∃ b,v=.str b∧k b:=by
  cases v <;> first | (constructor <;> (intro h;first | exact h.elim | (obtain ⟨_,h,_⟩:=h;cases h));done) | skip
  constructor
  · intro h;exact ⟨_,rfl,h⟩
  · rintro ⟨_,h,h2⟩;injection h with e1;subst e1;exact h2
theorem Uh {v:AV} {k k2:Nat→Nat→Prop}:Qcy v k k2 ↔ (∃ i o,v=.ptr i o∧k i o)∨(∃ i o,v=.glob i o∧k2 i o):=by
  cases v <;> first | (constructor <;> (intro h;first | exact h.elim | (rcases h with ⟨_,_,h,_⟩ | ⟨_,_,h,_⟩ <;> cases h));done) | skip
  · constructor
    · intro h;exact .inl ⟨_,_,rfl,h⟩
    · rintro (⟨_,_,h,h2⟩ | ⟨_,_,h,_⟩);cases h;exact h2;cases h
  · constructor
    · intro h;exact .inr ⟨_,_,rfl,h⟩
    · rintro (⟨_,_,h,_⟩ | ⟨_,_,h,h2⟩);cases h;cases h;exact h2
theorem asPtr_iff {v:AV} {k:Nat→Nat→Prop}:asPtr v k ↔ ∃ i o,v=.ptr i o∧k i o:=by
  cases v <;> first | (constructor <;> (intro h;first | exact h.elim | (obtain ⟨_,_,h,_⟩:=h;cases h));done) | skip
  constructor
  · intro h;exact ⟨_,_,rfl,h⟩
  · rintro ⟨_,_,h,h2⟩;injection h with e1 e2;subst e1 e2;exact h2
theorem YD {v:AV} {n:Prop} {k:Nat→Nat→Nat→Nat→Nat→Bool→Prop}:Gw v n k ↔ (v=.nils∧n)∨∃ i o l c e x,v=.slice i o l c e x∧k i o l c e x:=by
  cases v <;> first | (constructor <;> (intro h;first | exact h.elim | (rcases h with ⟨h,_⟩ | ⟨_,_,_,_,_,_,h,_⟩ <;> cases h));done) | skip
  · constructor
    · intro h;exact .inl ⟨rfl,h⟩
    · rintro (⟨_,h⟩ | ⟨_,_,_,_,_,_,h,_⟩);exact h;cases h
  · constructor
    · intro h;exact .inr ⟨_,_,_,_,_,_,rfl,h⟩
    · rintro (⟨h,_⟩ | ⟨_,_,_,_,_,_,h,h2⟩);cases h;cases h;exact h2
theorem asAgg_iff {v:AV} {k:List AV→Prop}:asAgg v k ↔ ∃ b,v=.agg b∧k b:=by
  cases v <;> first | (constructor <;> (intro h;first | exact h.elim | (obtain ⟨_,h,_⟩:=h;cases h));done) | skip
  constructor
  · intro h;exact ⟨_,rfl,h⟩
  · rintro ⟨_,h,h2⟩;injection h with e1;subst e1;exact h2
theorem asTup_iff {v:AV} {k:List AV→Prop}:asTup v k ↔ ∃ b,v=.tuple b∧k b:=by
  cases v <;> first | (constructor <;> (intro h;first | exact h.elim | (obtain ⟨_,h,_⟩:=h;cases h));done) | skip
  constructor
  · intro h;exact ⟨_,rfl,h⟩
  · rintro ⟨_,h,h2⟩;injection h with e1;subst e1;exact h2
def asI (kk:IntKind) (v:AV) (k:Int→Prop):Prop:=v.asInt fun k' n=>ck (keq k' kk) (k n)
theorem QC {kk:IntKind} {v:AV} {k:Int→Prop}:asI kk v k ↔ ∃ n,v=.int kk n∧k n:=by
  unfold asI;rw [D0]
  constructor
  · rintro ⟨k',n,rfl,h⟩;rw [QN,W3] at h;obtain ⟨rfl,h⟩:=h;exact ⟨n,rfl,h⟩
  · rintro ⟨n,rfl,h⟩;exact ⟨_,_,rfl,by rw [QN,W3];exact ⟨rfl,h⟩⟩
def YU (v:AV) (k:Nat→Prop):Prop:=v.asInt fun _ n=>Int.rec (motive:=fun _=>Prop) (fun m=>k m) (fun _=>False) n
theorem We {v:AV} {k:Nat→Prop}:YU v k ↔ ∃ kk n,v=.int kk (.ofNat n)∧k n:=by
  unfold YU;rw [D0]
  constructor
  · rintro ⟨k', n, rfl, h⟩; cases n with
    | ofNat m=>exact ⟨_,m,rfl,h⟩
    | negSucc m=>exact h.elim
  · rintro ⟨kk,n,rfl,h⟩;exact ⟨_,_,rfl,h⟩
def Wo (kd:Kd) (v:AV) (k:AV→Prop):Prop :=
  match kd with
  | .bool=>asB v fun b=>k (.bool b)
  | .int kk=>asI kk v fun n=>k (.int kk n)
  | .str=>asS v fun s=>k (.str s)
  | _=>k v
theorem YM {kd:Kd} {v:AV} {k:AV→Prop} (h:Wo kd v k):k v:=by
  unfold Wo at h;split at h
  · rw [Z7] at h;obtain ⟨_,rfl,h⟩:=h;exact h
  · rw [QC] at h;obtain ⟨_,rfl,h⟩:=h;exact h
  · rw [ZJ] at h;obtain ⟨_,rfl,h⟩:=h;exact h
  · exact h
def ZX:Blk→(Bool→Nat→List AV→Prop)→(Nat→Nat→Bool→Str→Prop)→Prop:=@Blk.rec (fun _=>(Bool→Nat→List AV→Prop)→(Nat→Nat→Bool→Str→Prop)→Prop)
  (fun _ _=>False) (fun m t cs k _=>k m t cs) (fun t f g s _ k=>k t f g s) (fun _ _ _ _=>False) (fun _ _ _=>False) (fun _ _ _ _ _ _=>False) (fun _ _ _ _ _ _ _ _=>False) (fun _ _ _=>False)
theorem Zj {b:Blk} {k1:Bool→Nat→List AV→Prop} {k2:Nat→Nat→Bool→Str→Prop}:ZX b k1 k2 ↔ (∃ m t cs,b=.cells m t cs∧k1 m t cs)∨(∃ t f g s,b=.bytes t f g s∧k2 t f g s):=by
  cases b <;> first | (constructor <;> (intro h;first | exact h.elim | (rcases h with ⟨_,_,_,h,_⟩ | ⟨_,_,_,_,h,_⟩ <;> cases h));done) | skip
  · constructor
    · intro h;exact .inl ⟨_,_,_,rfl,h⟩
    · rintro (⟨_,_,_,h,h2⟩ | ⟨_,_,_,_,h,_⟩);cases h;exact h2;cases h
  · constructor
    · intro h;exact .inr ⟨_,_,_,_,rfl,h⟩
    · rintro (⟨_,_,_,h,h2⟩ | ⟨_,_,_,_,h,h2⟩);cases h;cases h;exact h2
def Qz (b:Blk) (h:H) (k:Nat→H→Prop):Prop :=
  H.rec (motive:=fun _=>Prop) (fun m n bs=>Tr.setK m n b fun m'=>fN (Nat.succ n) fun n'=>k n ⟨m',n',bs⟩) h
theorem Ni (b:Blk) (h:H) (k:Nat→H→Prop):Qz b h k=k h.next ⟨Tr.set h.mem h.next b,Nat.succ h.next,h.base⟩:=by
  cases h;simp only [Qz,Tr.setK_eq,Zb]
theorem Zo {b:Blk} {h:H} {k:Nat→H→Prop}:Qz b h k ↔ ∃ n h',h.push b=some (n,h')∧k n h':=by
  rw [Ni];unfold H.push
  constructor
  · intro hk;exact ⟨_,_,rfl,hk⟩
  · rintro ⟨n,h',e,hk⟩;injection e with e;injection e with e1 e2;subst e1 e2;exact hk
def Yy (id:Nat) (b:Blk) (h:H) (k:H→Prop):Prop :=
  H.rec (motive:=fun _=>Prop) (fun m n bs=>ck (Nat.blt id n) (ck (Nat.ble bs id) (Tr.setK m id b fun m'=>k ⟨m',n,bs⟩))) h
theorem ZK {id:Nat} {b:Blk} {h:H} {k:H→Prop}:Yy id b h k ↔ ∃ h',h.put id b=some h'∧k h':=by
  cases h with | mk m n bs=>
  unfold Yy
  simp only [QN,Tr.setK_eq,QH,Qk]
  rw [H.put_eq]
  constructor
  · rintro ⟨h1,h2,h3⟩;exact ⟨_,if_pos ⟨h1,h2⟩,h3⟩
  · rintro ⟨h', e, hk⟩
    split at e
    · rename_i hc;injection e with e;subst e;exact ⟨hc.1,hc.2,hk⟩
    · cases e
def glK (h:H) (g:Nat) (k:List AV→Prop):Prop:=ck (Nat.blt g h.base) (ZX (h.get g) (fun m _ cs=>ck (Bool.not m) (k cs)) fun _ _ _ _=>False)
def ldV (p:AV) (h:H) (k:AV→Prop):Prop:=Qcy p (fun id off=>ZX (h.get id) (fun _ _ cs=>op' (Q8 cs off) k) fun _ _ _ s=>ck (Nat.blt off s.len) (fN (s.get off) fun c=>k (.int .u8 (Int.ofNat c)))) fun g off=>glK h g fun cs=>op' (Q8 cs off) k
def ldB (p:AV) (h:H) (k:Bool→Prop):Prop:=ldV p h fun v=>asB v k
def ldI (kk:IntKind) (p:AV) (h:H) (k:Int→Prop):Prop:=ldV p h fun v=>asI kk v k
def ldS (p:AV) (h:H) (k:Str→Prop):Prop:=ldV p h fun v=>asS v k
def ldN (n:Nat) (p:AV) (h:H) (k:List AV→Prop):Prop:=Qcy p (fun id off=>ZX (h.get id) (fun _ _ cs=>op' (Z4 n (Yh off cs)) k) fun _ _ _ _=>False) fun g off=>glK h g fun cs=>op' (Z4 n (Yh off cs)) k
theorem Qdq {h:H} {g:Nat} {k:List AV→Prop} (e:glK h g k):∃ t cs,Nat.blt g h.base=true∧h.get g=.cells false t cs∧k cs:=by
  unfold glK at e
  rw [QN,Zj] at e
  obtain ⟨h1,⟨m,t,cs,h2,h3⟩ | ⟨_,_,_,_,_,h3⟩⟩:=e
  · rw [QN] at h3
    cases m
    · exact ⟨t,cs,h1,h2,h3.2⟩
    · cases h3.1
  · exact h3.elim
theorem GI {p:AV} {h:H} {k:AV→Prop} (e:ldV p h k):∃ v,Zn p h=some v∧k v:=by
  unfold ldV at e
  rw [Uh] at e
  rcases e with ⟨i,o,rfl,e⟩ | ⟨i,o,rfl,e⟩
  · rw [Zj] at e
    unfold Zn
    rcases e with ⟨m,t,cs,hg,e⟩ | ⟨t,f,g,s,hg,e⟩
    · rw [QX] at e; obtain ⟨v, hv, hk⟩ := e
      exact ⟨v,by simp only [hg,hv],hk⟩
    · rw [QN, Zb] at e
      exact ⟨_,by simp only [hg,e.1],e.2⟩
  · obtain ⟨t, cs, h1, h2, e⟩ := Qdq e
    rw [QX] at e;obtain ⟨v,hv,hk⟩:=e
    exact ⟨v,by simp only [Zn,Ul,h1,h2,hv],hk⟩
theorem Qdj {n:Nat} {p:AV} {h:H} {k:List AV→Prop} (e:ldN n p h k):∃ l,Y7 n p h=some (.agg l)∧k l:=by
  unfold ldN at e
  rw [Uh] at e
  rcases e with ⟨i,o,rfl,e⟩ | ⟨i,o,rfl,e⟩
  · rw [Zj] at e
    unfold Y7
    rcases e with ⟨m,t,cs,hg,e⟩ | ⟨t,f,g,s,hg,e⟩
    · rw [QX] at e; obtain ⟨v, hv, hk⟩ := e
      exact ⟨v,by simp only [hg,hv],hk⟩
    · exact e.elim
  · obtain ⟨t, cs, h1, h2, e⟩ := Qdq e
    rw [QX] at e;obtain ⟨v,hv,hk⟩:=e
    exact ⟨v,by simp only [Y7,Ul,h1,h2,hv],hk⟩
def stV (p x:AV) (h:H) (k:H→Prop):Prop:=asPtr p fun id off=>ZX (h.get id)
  (fun m t cs=>ck (ZB x) (op' (Q7 off [x] cs) fun cs'=>Yy id (.cells m t cs') h k))
  fun t fz sg s=>YU x fun c=>ck (Nat.blt off s.len) (ck (Nat.ble fz off) (ck (Nat.blt c 256) (fS (s.set off c) fun s'=>asI .u8 x fun _=>Yy id (.bytes t fz sg s') h k)))
def ZV (l:List AV):Bool:=List.rec (motive:=fun _=>Bool) true (fun a _ ih=>Bool.rec (motive:=fun _=>Bool) false ih (ZB a)) l
def stN (n:Nat) (p:AV) (xs:List AV) (h:H) (k:H→Prop):Prop:=asPtr p fun id off=>ZX (h.get id)
  (fun m t cs=>ck (Nat.beq xs.length n) (ck (ZV xs) (op' (Q7 off xs cs) fun cs'=>Yy id (.cells m t cs') h k))) fun _ _ _ _=>False
theorem QbE (v:AV):ZB v=v.one:=by cases v <;> rfl
theorem UF:∀ l:List AV,ZV l=Wy l
  | []=>rfl
  | a :: t => by
    show (Bool.rec (motive:=fun _=>Bool) false (ZV t) (ZB a))=_
    rw [QbE,UF t]
    cases h:a.one <;> simp only [Wy,h]
theorem Kg {x:AV} (h:ZB x=true):UG x=some [x]:=by cases x <;> first | rfl | cases h
theorem stV_imp {p x:AV} {h:H} {k:H→Prop} (e:stV p x h k):∃ h',Yu 1 p x h=some h'∧k h':=by
  unfold stV at e
  rw [asPtr_iff] at e;obtain ⟨i,o,rfl,e⟩:=e
  rw [Zj] at e
  unfold Yu
  rcases e with ⟨m,t,cs,hg,e⟩ | ⟨t,f,g,s,hg,e⟩
  · rw [QN, QX] at e
    obtain ⟨h1,cs',h2,e⟩:=e
    rw [ZK] at e
    obtain ⟨h',h3,hk⟩:=e
    refine ⟨h',?_,hk⟩
    have h4:Wy [x]=true:=by unfold Wy;rw [← QbE,h1];rfl
    simp only [hg,Kg h1,h2,h4,Str.brec]
    simpa using h3
  · rw [We] at e
    obtain ⟨kk,c,rfl,e⟩:=e
    simp only [QN,Vt] at e
    obtain ⟨h1,h2,h3,e⟩:=e
    rw [QC] at e
    obtain ⟨n,hn,e⟩:=e
    injection hn with hn _;subst hn
    rw [ZK] at e
    obtain ⟨h',h4,hk⟩:=e
    refine ⟨h',?_,hk⟩
    simp only [hg,h1,h2,h3,Str.brec]
    simpa using h4
theorem stN_imp {n:Nat} {p:AV} {xs:List AV} {h:H} {k:H→Prop} (e:stN n p xs h k):∃ h',Yu n p (.agg xs) h=some h'∧k h':=by
  unfold stN at e
  rw [asPtr_iff] at e;obtain ⟨i,o,rfl,e⟩:=e
  rw [Zj] at e
  unfold Yu
  rcases e with ⟨m,t,cs,hg,e⟩ | ⟨t,f,g,s,hg,e⟩
  · simp only [QN, QX] at e
    obtain ⟨h0,h1,cs',h2,e⟩:=e
    rw [ZK] at e
    obtain ⟨h',h3,hk⟩:=e
    refine ⟨h',?_,hk⟩
    rw [UF] at h1
    simp only [hg,UG,h0,h1,h2,Str.brec]
    simpa using h3
  · exact e.elim
end Go.Am
