import Derived.Test.YtfgdelkdmdmfgaaDoorAmL7
import Derived.Test.YtfgdelkdmdmfgaaDoorSvA2
import Derived.Test.YtfgdelkdmdmfgaaDoorWaB
namespace Go.Am
open Go Go.ChangeShapes Go.WideShapes Go.RowKit
set_option linter.all false
set_option maxRecDepth 100000
theorem U8 {α β : Type} {f : α → Option β} : ∀ {l : List α} {r : List β}, l.mapM f = some r → r.length = l.length ∧ ∀ (j : Nat) (a : α), l[j]? = some a → ∃ b, f a = some b ∧ r[j]? = some b
  | [], r, h => by
    have h:some []=some r:=h
    injection h with h;subst h
    exact ⟨rfl,fun j a e=>by simp at e⟩
  | x :: l, r, h => by
    rw [List.mapM_cons] at h
    cases hx:f x with
    | none=>rw [hx] at h;cases h
    | some y =>
      cases hl:l.mapM f with
      | none=>rw [hx,hl] at h;cases h
      | some ys =>
        rw [hx,hl] at h
        have h:some (y::ys)=some r:=h
        injection h with h;subst h
        obtain ⟨h1,h2⟩:=U8 hl
        refine ⟨by simp [h1],fun j a e=>?_⟩
        cases j with
        | zero=>injection e with e;subst e;exact ⟨y,hx,rfl⟩
        | succ j=>exact h2 j a e
theorem Xp {n j:Nat} (h:j < n):(List.range n)[j]?=some j:=by rw [List.getElem?_range h]
theorem add_at (b o m:Nat):(⟨b,o,none⟩:Addr).add m=⟨b,o+m,none⟩:=by
  unfold Addr.add;split
  · rename_i h0;subst h0;rfl
  · rfl
theorem cells_at {w:World} {base b o n:Nat} {cs:List Value} {ccs:Array Value} {t:TypeId} {fr:Nat × Nat} (h:w.cells? base ⟨b,o,none⟩ n=some cs) (hb:w.heap[b]?=some (.cells ccs t fr)):cs.length=n∧∀ (j:Nat) (v:Value),cs[j]?=some v→ccs[o+j]?=some v:=by
  unfold World.cells? at h
  split at h
  · obtain ⟨h1, h2⟩ := U8 h
    refine ⟨by rw [h1,List.length_range],fun j v e=>?_⟩
    have hj:j < n:=by
      have:=(List.getElem?_eq_some_iff.1 e).1
      rw [h1,List.length_range] at this;exact this
    obtain ⟨x,hx,hr⟩:=h2 j j (Xp hj)
    rw [hr] at e;injection e with e;subst e
    exact cell_add hb hx
  · cases h
theorem relL_get {μ:Mu}:∀ {xs:List AV} {vs:List Value},AV.relL μ xs vs→xs.length=vs.length∧∀ (j:Nat) (a:AV),xs[j]?=some a→∃ v,vs[j]?=some v∧AV.rel μ a v
  | [],vs,h=>by rw [AV.relL_nil.1 h];exact ⟨rfl,fun j a e=>by simp at e⟩
  | a :: xs, vs, h => by
    obtain ⟨v,vs',rfl,h1,h2⟩:=AV.relL_cons.1 h
    obtain ⟨q1,q2⟩:=relL_get h2
    refine ⟨by simp [q1],fun j b e=>?_⟩
    cases j with
    | zero=>injection e with e;subst e;exact ⟨v,rfl,h1⟩
    | succ j=>exact q2 j b e
section
variable {H':Type} {enc:TypeId × Value→H'} {P:Program} {w:World} {base:Nat} {hd:Bool}
theorem Uo {sp : Nat → Bool} {t : TypeId} {fs : Array Field} {fuel : Nat} {cs : List Value} {y : DataW H' × List MemPlace} (ht : P.underlying t = some (.struct fs)) (h : DataW.trod enc P w base sp hd fuel t cs = some y) (i : Nat) {f : Field} (hf : fs.toList[i]? = some f) :
    ∃ fuel' y',DataW.trod enc P w base sp hd fuel' f.type ((cs.drop f.offset).take (P.cellsOf f.type))=some y'∧∀ x∈y'.1.weights P f.type,x∈y.1.weights P t:=by
  cases fuel with
  | zero=>unfold DataW.trod at h;cases h
  | succ fuel =>
    unfold DataW.trod at h
    simp only [ht] at h
    split at h
    · cases hm : fs.toList.mapM fun f => DataW.trod enc P w base sp hd fuel f.type ((cs.drop f.offset).take (P.cellsOf f.type)) with
      | none=>rw [hm] at h;cases h
      | some xs =>
        rw [hm] at h
        simp only [Option.map_some] at h
        injection h with h
        obtain ⟨e1,e2⟩:=U8 hm
        obtain ⟨y',hy,hx⟩:=e2 i f hf
        refine ⟨fuel,y',hy,fun x hxm=>?_⟩
        rw [← h]
        unfold DataW.weights
        simp only [ht]
        have go:∀ (ts:List TypeId) (ds:List (DataW H')) (i:Nat) (t:TypeId) (d:DataW H'),ts[i]?=some t→ds[i]?=some d→x∈d.weights P t→x∈DataW.weightsEach P ts ds:=by
          intro ts
          induction ts with
          | nil=>intro ds i t d h1 _ _;simp at h1
          | cons t0 ts ih =>
            intro ds i t d h1 h2 h3
            cases ds with
            | nil=>simp at h2
            | cons d0 ds =>
              unfold DataW.weightsEach
              cases i with
              | zero=>injection h1 with h1;injection h2 with h2;subst h1 h2;exact List.mem_append_left _ h3
              | succ i=>exact List.mem_append_right _ (ih ds i t d h1 h2 h3)
        exact go _ _ i f.type y'.1 (by rw [List.getElem?_map,hf];rfl) (by rw [List.getElem?_map,hx];rfl) hxm
    · cases h
theorem trod_bool {sp:Nat→Bool} {t:TypeId} {fuel:Nat} {v:Value} {y:DataW H' × List MemPlace} (ht:P.underlying t=some .bool) (h:DataW.trod enc P w base sp hd fuel t [v]=some y):∃ b,v=.bool b:=by
  cases fuel with
  | zero=>unfold DataW.trod at h;cases h
  | succ fuel =>
    unfold DataW.trod at h
    simp only [ht] at h
    cases v <;> simp only at h <;> first | (cases h;done) | skip
    rename_i b;exact ⟨b,rfl⟩
end
end Go.Am
namespace Go.Am
open Go Go.ChangeShapes Go.WideShapes Go.RowKit
set_option linter.all false
set_option maxRecDepth 100000
abbrev W6:=Nat × Nat × Blk
structure Xf (μ:Mu) (W:World) (r:W6):Prop where
  row:∃ ccs t fr,W.heap[r.1]?=some (.cells ccs t fr)
  rel:BlkRelU false μ W r.1 r.2.1 r.2.2
  own:∀ t cs,r.2.2≠.cells false t cs
def Wx:Option W6→Blk
  | none=>.dead
  | some r=>r.2.2
def Xw (gs:List Blk) (rs:List (Option W6)) (W:World):Mu :=
  ⟨fun id=>if id < gs.length then (if (gs.getD id .dead).live=true then some (id,0) else none) else ((rs.getD (id - gs.length) none).map fun r=>(r.1,r.2.1)),
   fun id=>if id < gs.length then YG W id else match rs.getD (id - gs.length) none with
     | some r=>YG W r.1
     | none=>0⟩
theorem Qdb {gs:List Blk} {rs:List (Option W6)} {W:World} {id:Nat} (h:id < gs.length):Xw gs rs W id=if (gs.getD id .dead).live=true then some (id,0) else none:=by
  show (if id < gs.length then _ else _)=_
  rw [if_pos h]
theorem Qdc {gs:List Blk} {rs:List (Option W6)} {W:World} {id:Nat} (h:gs.length≤id):Xw gs rs W id=(rs.getD (id - gs.length) none).map fun r=>(r.1,r.2.1):=by
  show (if id < gs.length then _ else _)=_
  rw [if_neg (by omega)]
theorem Qbu {gs:List Blk} {rs:List (Option W6)} {W:World} {i:Nat} {r:W6} (h:rs[i]?=some (some r)):Xw gs rs W (gs.length+i)=some (r.1,r.2.1)∧(Xw gs rs W).sz (gs.length+i)=YG W r.1:=by
  have e:rs.getD (gs.length+i - gs.length) none=some r:=by rw [Nat.add_sub_cancel_left,List.getD_eq_getElem?_getD,h];rfl
  constructor
  · rw [Qdc (Nat.le_add_right _ _),e];rfl
  · show (if gs.length + i < gs.length then _ else _) = _
    rw [if_neg (by omega),e]
theorem Xe (gs:List Blk) (rs:List (Option W6)) (id:Nat):(Hg (gs++rs.map Wx)).get id=if id < gs.length then gs.getD id .dead else Wx (rs.getD (id - gs.length) none):=by
  rw [Qfq,List.getD_eq_getElem?_getD]
  by_cases h:id < gs.length
  · rw [if_pos h,List.getElem?_append_left h,List.getD_eq_getElem?_getD]
  · rw [if_neg h, List.getElem?_append_right (by omega), List.getElem?_map, List.getD_eq_getElem?_getD]
    cases rs[id - gs.length]? <;> rfl
section
variable {H':Type} {enc:TypeId × Value→H'} {P:Program} {w:World} {base:Nat} {hd:Bool}
theorem trod_intw {t:TypeId} {k:IntKind} {sp:Nat→Bool} {fuel:Nat} {v:Value} {y:DataW H' × List MemPlace} (ht:P.underlying t=some (.int k)) (h:DataW.trod enc P w base sp hd fuel t [v]=some y):∃ n,v=.int k n∧(Lit.int k n).wf=true:=by
  cases fuel with
  | zero=>unfold DataW.trod at h;cases h
  | succ fuel =>
    unfold DataW.trod at h
    simp only [ht] at h
    cases v <;> simp only at h <;> first | (cases h;done) | skip
    split at h
    · rename_i hs;obtain ⟨rfl,hs⟩:=hs;exact ⟨_,rfl,hs⟩
    · cases h
end
end Go.Am
namespace Go.Am
open Go Go.ChangeShapes Go.WideShapes Go.RowKit
set_option linter.all false
set_option maxRecDepth 100000
theorem rel_hgGm {W : World} {gs : List Blk} {rs : List (Option W6)} (h : ∀ g b, gs[g]? = some b → GlOk W g b) (hr : ∀ (i : Nat) (r : W6), rs[i]? = some (some r) → Xf (Xw gs rs W) W r) :
    Rel (Xw gs rs W) (Hg (gs++rs.map Wx)) W∧∀ id b d,(Hg (gs++rs.map Wx)).base≤id→Xw gs rs W id=some (b,d)→((Hg (gs++rs.map Wx)).get id).live=false:=by
  have hlen:(gs++rs.map Wx).length=gs.length+rs.length:=by simp
  have hlive:∀ g,g < gs.length→(gs.getD g .dead).live=true→∃ (t:Nat) (cs:List AV) (ccs:Array Value),gs.getD g .dead=.cells false t cs∧W.heap[g]?=some (.cells ccs t (0,0))∧∀ (i:Nat) (a:AV),cs[i]?=some a→∃ v,ccs[i]?=some v∧AV.rel J8 a v:=by
    intro g hl hg
    have he:gs[g]?=some gs[g]:=List.getElem?_eq_getElem hl
    rw [List.getD_eq_getElem?_getD,he] at hg ⊢
    rcases h g gs[g] he with e | ⟨t,cs,ccs,e,h1,h2⟩
    · simp only [Option.getD_some] at hg;rw [e] at hg;cases hg
    · exact ⟨t,cs,ccs,e,h1,h2⟩
  have hm : ∀ id b d, Xw gs rs W id = some (b, d) → (id < gs.length ∧ b = id ∧ d = 0 ∧ (gs.getD id .dead).live = true) ∨ ∃ i r, id = gs.length + i ∧ rs[i]? = some (some r) ∧ b = r.1 ∧ d = r.2.1 := by
    intro id b d e
    by_cases hl:id < gs.length
    · rw [Qdb hl] at e
      split at e
      · rename_i hv;injection e with e;injection e with e1 e2;exact .inl ⟨hl,e1.symm,e2.symm,hv⟩
      · cases e
    · rw [Qdc (by omega), List.getD_eq_getElem?_getD] at e
      cases hq:rs[id - gs.length]? with
      | none=>rw [hq] at e;cases e
      | some o =>
        rw [hq] at e
        cases o with
        | none=>cases e
        | some r =>
          injection e with e;injection e with e1 e2
          exact .inr ⟨id - gs.length,r,by omega,hq,e1.symm,e2.symm⟩
  refine ⟨⟨⟨Nat.le_refl _⟩,fun id b d e=>?_,fun i j b d e hi hj _ _ hbj=>?_,fun id b d e=>?_,fun id b d ccs t fr e hw=>?_,fun g t cs hg e=>?_⟩,fun id b d hb e=>?_⟩
  · show id < (gs ++ rs.map Wx).length ∧ b < W.heap.size
    rw [hlen]
    rcases hm id b d e with ⟨h1,rfl,rfl,h2⟩ | ⟨i,r,rfl,h1,rfl,rfl⟩
    · obtain ⟨t, cs, ccs, _, h3, _⟩ := hlive _ h1 h2
      exact ⟨by omega,(Array.getElem?_eq_some_iff.1 h3).1⟩
    · obtain ⟨ccs, t, fr, h3⟩ := (hr i r h1).row
      have:=(List.getElem?_eq_some_iff.1 h1).1
      exact ⟨by omega,(Array.getElem?_eq_some_iff.1 h3).1⟩
  · have hbj : (gs ++ rs.map Wx).length ≤ j := hbj
    rw [hlen] at hbj
    rcases hm j b e hj with ⟨h1,_⟩ | ⟨i',r,rfl,h1,_⟩
    · omega
    · have:=(List.getElem?_eq_some_iff.1 h1).1;omega
  · rcases hm id b d e with ⟨h1, rfl, rfl, h2⟩ | ⟨i, r, rfl, h1, rfl, rfl⟩
    · obtain ⟨t, cs, ccs, h0, h3, h4⟩ := hlive _ h1 h2
      rw [Xe,if_pos h1,h0]
      exact ⟨ccs,(0,0),h3,fun i a ha=>by
        obtain ⟨v,hv,hr⟩:=h4 i a ha
        exact ⟨v,by rw [Nat.zero_add];exact hv,AV.rel_mono (fun _ _ h=>by cases h) a v hr⟩,fun _ o _ _ h=>by simp at h,fun _=>rfl⟩
    · have hf : Nat.ble (Hg (gs ++ rs.map Wx)).base (gs.length + i) = false := by
        cases q:Nat.ble (Hg (gs++rs.map Wx)).base (gs.length+i)
        · rfl
        · rw [Qk] at q
          have q:(gs++rs.map Wx).length≤gs.length+i:=q
          have:=(List.getElem?_eq_some_iff.1 h1).1
          omega
      have eb:(Hg (gs++rs.map Wx)).get (gs.length+i)=r.2.2:=by
        rw [Xe,if_neg (by omega),Nat.add_sub_cancel_left,List.getD_eq_getElem?_getD,h1];rfl
      rw [eb,hf]
      exact (hr i r h1).rel
  · rcases hm id b d e with ⟨h1, rfl, rfl, h2⟩ | ⟨i, r, rfl, h1, rfl, rfl⟩
    · show ccs.size = (if b < gs.length then YG W b else _)
      rw [if_pos h1];unfold YG;rw [hw]
    · rw [(Qbu (gs:=gs) (W:=W) h1).2];unfold YG;rw [hw]
  · rw [Xe] at e
    by_cases hl:g < gs.length
    · rw [if_pos hl] at e
      rw [Qdb hl,e];rfl
    · rw [if_neg hl, List.getD_eq_getElem?_getD] at e
      cases hq:rs[g - gs.length]? with
      | none=>rw [hq] at e;cases e
      | some o =>
        rw [hq] at e
        cases o with
        | none=>cases e
        | some r=>exact absurd e ((hr _ r hq).own t cs)
  · have hb : (gs ++ rs.map Wx).length ≤ id := hb
    rw [hlen] at hb
    rcases hm id b d e with ⟨h1,_⟩ | ⟨i',r,rfl,h1,_⟩
    · omega
    · have:=(List.getElem?_eq_some_iff.1 h1).1;omega
theorem rel_laidGm {P:Program} {W:World} {laid:List (String × DataW Unit)} (hl:laidMetH P laid W) (hp:(laid.filter fun x=>x.2.handleName?.isSome)=[]) {rs:List (Option W6)} (hr:∀ (ts us:Nat→Nat) (i:Nat) (r:W6),rs[i]?=some (some r)→Xf (Xw (Ym P laid ts us) rs W) W r) :
    ∃ ts us,Rel (Xw (Ym P laid ts us) rs W) (Hg (Ym P laid ts us++rs.map Wx)) W∧∀ id b d,(Hg (Ym P laid ts us++rs.map Wx)).base≤id→Xw (Ym P laid ts us) rs W id=some (b,d)→((Hg (Ym P laid ts us++rs.map Wx)).get id).live=false:=by
  unfold laidMetH at hl
  rw [hp] at hl
  have h:=glBlk_ok (show laidMet P laid W from hl)
  refine ⟨fun g=>(h g).choose,fun g=>(h g).choose_spec.choose,rel_hgGm (fun g b e=>?_) (hr _ _)⟩
  unfold Ym at e
  rw [List.getElem?_map,Option.map_eq_some_iff] at e
  obtain ⟨g',e1,rfl⟩:=e
  obtain rfl:g'=g:=by
    rw [List.getElem?_range] at e1
    · injection e1 with e1;exact e1.symm
    · have:=(List.getElem?_eq_some_iff.1 e1).1;simpa using this
  exact (h g').choose_spec.choose_spec _ _ rfl rfl
def Fits (μ:Mu) (W:World) (n0:Nat) (rs:List (Option W6)):Prop:=∀ (j:Nat) (r:W6),rs[j]?=some (some r)→μ (n0+j)=some (r.1,r.2.1)∧μ.sz (n0+j)=YG W r.1
def LaidH (h:H) (n0:Nat) (rs:List (Option W6)):Prop:=∀ (j:Nat) (q:Option W6),rs[j]?=some q→h.get (n0+j)=Wx q∧n0+j < h.next
structure InPk (W:World) (v:Value) (n0:Nat) (rs:List (Option W6)) (a:AV) (T:H→Prop):Prop where
  good:∀ μ,Fits μ W n0 rs→∀ (j:Nat) (r:W6),rs[j]?=some (some r)→Xf μ W r
  rel:∀ μ,Fits μ W n0 rs→AV.rel μ a v
  told:∀ h,LaidH h n0 rs→T h
theorem Fits.of (gs:List Blk) (rs:List (Option W6)) (W:World):Fits (Xw gs rs W) W gs.length rs:=fun j r e=>Qbu e
theorem LaidH.of (gs:List Blk) (rs:List (Option W6)):LaidH (Hg (gs++rs.map Wx)) gs.length rs:=fun j q e=>by
  have hj:=(List.getElem?_eq_some_iff.1 e).1
  refine ⟨by rw [Xe,if_neg (by omega),Nat.add_sub_cancel_left,List.getD_eq_getElem?_getD,e];rfl,?_⟩
  show gs.length+j < (gs++rs.map Wx).length
  rw [List.length_append,List.length_map];omega
theorem Qaz {α : Type} {P : Nat → α → Prop} : ∀ (n : Nat), (∀ i, i < n → ∃ x, P i x) → ∃ l : List α, l.length = n ∧ ∀ (i : Nat) (x : α), l[i]? = some x → P i x
  | 0,_=>⟨[],rfl,fun i x h=>by simp at h⟩
  | n + 1, h => by
    obtain ⟨l,hl,hp⟩:=Qaz n fun i hi=>h i (by omega)
    obtain ⟨x,hx⟩:=h n (Nat.lt_succ_self n)
    refine ⟨l++[x],by simp [hl],fun i y hy=>?_⟩
    by_cases hi:i < n
    · rw [List.getElem?_append_left (by omega)] at hy;exact hp i y hy
    · rw [List.getElem?_append_right (by omega)] at hy
      have:i - l.length=0:=by
        have:=(List.getElem?_eq_some_iff.1 hy).1
        simp at this;omega
      rw [this] at hy
      have e:i=n:=by omega
      subst e
      injection hy with hy;subst hy;exact hx
theorem UV {H':Type} {P:Program} {e:TypeId}:∀ {l:List (DataW H')} {d:DataW H'},d∈l→∀ n∈d.weights P e,n∈DataW.weightsAll P e l
  | x :: l, d, h, n, hn => by
    unfold DataW.weightsAll
    rcases List.mem_cons.1 h with rfl | h
    · exact List.mem_append_left _ hn
    · exact List.mem_append_right _ (UV h n hn)
section
variable {H':Type} {enc:TypeId × Value→H'} {P:Program} {w:World} {base:Nat} {hd:Bool}
theorem spot_of {a:Addr} {es:Nat} {cs:List Value} (h:w.cells? base (a.add 0) es=some cs) (h0:0 < es):∃ b o ccs tt fr,a=⟨b,o,none⟩∧w.heap[b]?=some (.cells ccs tt fr):=by
  obtain ⟨_,h1,h2⟩:=World.cells?_some h
  have h3:=h2 0 h0
  have a0:a.add 0=a:=by unfold Addr.add;rw [if_pos rfl]
  rw [a0,a0,List.getElem?_eq_getElem (by omega)] at h3
  have hsp:=World.cell?_spot h3
  obtain ⟨b,o,spot⟩:=a
  simp only at hsp;subst hsp
  unfold World.cell? at h3
  simp only at h3
  split at h3
  · rename_i hb;exact ⟨b,o,_,_,_,rfl,hb⟩
  · cases h3
theorem Qa7 {t e : TypeId} {es fuel : Nat} {v : Value} {y : DataW H' × List MemPlace} (ht : P.underlying t = some (.slice e)) (hc : P.cellsOf e = es) (hes : 0 < es)
    (h:DataW.trod enc P w base (fun _=>true) hd fuel t [v]=some y):v=.slice none 0 0∨(∃ a,v=.slice (some a) 0 0)∨∃ (b o len c:Nat) (tt:TypeId) (ccs:Array Value) (fr:Nat × Nat),v=.slice (some ⟨b,o,none⟩) len c∧len≤c∧w.heap[b]?=some (.cells ccs tt fr)∧o+c * es≤ccs.size ∧
      (∀ i,i < len→∃ (fuel':Nat) (y':DataW H' × List MemPlace) (cs:List Value),DataW.trod enc P w base (fun _=>true) hd fuel' e cs=some y'∧cs.length=es∧(∀ j,j < es→ccs[o+i * es+j]?=cs[j]?)∧∀ q∈y'.1.weights P e,q∈y.1.weights P t) ∧
      ∀ m,(∀ x∈y.1.weights P t,x≤m)→len * P.bytesOf e≤m:=by
  cases fuel with
  | zero=>unfold DataW.trod at h;cases h
  | succ fuel =>
    unfold DataW.trod at h
    simp only [ht] at h
    cases v <;> first | (cases h;done) | skip
    rename_i p len c
    cases p with
    | none =>
      left
      cases len <;> cases c <;> first | rfl | (cases h;done)
    | some a =>
      right
      simp only at h
      split at h
      · rename_i hcond
        obtain ⟨_,hle,_⟩:=hcond
        rcases Nat.eq_zero_or_pos c with h1 | h1
        · left
          subst h1
          have:len=0:=by omega
          subst this
          exact ⟨a,rfl⟩
        right
        cases hm:(List.range len).mapM (fun i=>(w.cells? base (a.add (i * P.cellsOf e)) (P.cellsOf e)).bind (DataW.trod enc P w base (fun _=>true) hd fuel e)) with
        | none=>rw [hm] at h;cases h
        | some elems =>
          rw [hm] at h
          simp only [Option.bind_some,if_true] at h
          cases hm2:(List.range (c - len)).mapM (fun j=>(w.cells? base (a.add ((len+j) * P.cellsOf e)) (P.cellsOf e)).bind (DataW.trod enc P w base (fun _=>true) hd fuel e)) with
          | none=>rw [hm2] at h;cases h
          | some rest =>
            rw [hm2] at h
            simp only [Option.map_some] at h
            injection h with h
            obtain ⟨e1,e2⟩:=U8 hm
            obtain ⟨e3,e4⟩:=U8 hm2
            have all:∀ i,i < c→∃ cs y',w.cells? base (a.add (i * es)) es=some cs∧DataW.trod enc P w base (fun _=>true) hd fuel e cs=some y'∧(i < len→elems[i]?=some y'):=fun i hi=>by
              rcases Nat.lt_or_ge i len with h2 | h2
              · obtain ⟨y', hy, hx⟩ := e2 i i (Xp h2)
                rw [hc] at hy
                cases hcs:w.cells? base (a.add (i * es)) es with
                | none=>rw [hcs] at hy;cases hy
                | some cs=>rw [hcs] at hy;exact ⟨cs,y',rfl,hy,fun _=>hx⟩
              · obtain ⟨y', hy, hx⟩ := e4 (i - len) (i - len) (Xp (by omega))
                have hy:(w.cells? base (a.add ((len+(i - len)) * P.cellsOf e)) (P.cellsOf e)).bind (DataW.trod enc P w base (fun _=>true) hd fuel e)=some y':=hy
                rw [show len+(i - len)=i by omega,hc] at hy
                cases hcs:w.cells? base (a.add (i * es)) es with
                | none=>rw [hcs] at hy;cases hy
                | some cs=>rw [hcs] at hy;exact ⟨cs,y',rfl,hy,fun h3=>absurd h3 (by omega)⟩
            obtain ⟨cs0,_,hcs0,_⟩:=all 0 h1
            rw [Nat.zero_mul] at hcs0
            obtain ⟨b,o,ccs,tt,fr,rfl,hb⟩:=spot_of hcs0 hes
            have cell:∀ i,i < c→∃ cs y',cs.length=es∧(∀ j,j < es→ccs[o+i * es+j]?=cs[j]?)∧DataW.trod enc P w base (fun _=>true) hd fuel e cs=some y'∧(i < len→elems[i]?=some y'):=fun i hi=>by
              obtain ⟨cs,y',h2,h3,h4⟩:=all i hi
              rw [add_at] at h2
              obtain ⟨q1,q2⟩:=cells_at h2 hb
              exact ⟨cs,y',q1,fun j hj=>by
                rw [List.getElem?_eq_getElem (by omega)]
                exact q2 j _ (List.getElem?_eq_getElem (by omega)),h3,h4⟩
            refine ⟨b,o,len,c,tt,ccs,fr,rfl,hle,hb,?_,fun i hi=>?_,fun m hm=>?_⟩
            · obtain ⟨cs, y', q1, q2, _⟩ := cell (c - 1) (by omega)
              have q3:=q2 (es - 1) (by omega)
              rw [List.getElem?_eq_getElem (by omega)] at q3
              have:=(Array.getElem?_eq_some_iff.1 q3).1
              have e5:c * es=(c - 1) * es+es:=by rw [← Nat.succ_mul];congr 1;omega
              omega
            · obtain ⟨cs, y', q1, q2, q3, q4⟩ := cell i (by omega)
              refine ⟨fuel,y',cs,q3,q1,q2,fun q hq=>?_⟩
              rw [← h];unfold DataW.weights;simp only [ht]
              refine List.mem_cons_of_mem _ (List.mem_append_left _ (UV ?_ q hq))
              exact List.mem_map.2 ⟨y',List.mem_of_getElem? (q4 hi),rfl⟩
            · have := hm ((elems.map (·.1)).length + (rest.map (·.1)).length |> (· * P.bytesOf e)) (by
                rw [← h];unfold DataW.weights;simp only [ht];exact List.mem_cons_self)
              have h6:((elems.map (·.1)).length+(rest.map (·.1)).length) * P.bytesOf e≤m:=this
              simp only [List.length_map,e1,e3,List.length_range] at h6
              exact Nat.le_trans (Nat.mul_le_mul_right _ (by omega)) h6
      · cases h
end
theorem QaH {β:Type} {f:β→List AV} {S:Nat} (hf:∀ b,(f b).length=S):∀ {L:List β} {i j:Nat} (hi:i < L.length),j < S→(L.flatMap f)[i * S+j]?=(f L[i])[j]?
  | b :: L, 0, j, _, hj => by
    rw [List.flatMap_cons,Nat.zero_mul,Nat.zero_add,List.getElem?_append_left (by rw [hf];exact hj)];rfl
  | b :: L, i + 1, j, hi, hj => by
    rw [List.flatMap_cons,List.getElem?_append_right (by rw [hf,Nat.succ_mul];omega),hf]
    rw [show (i+1) * S+j - S=i * S+j by rw [Nat.succ_mul];omega,QaH hf (L:=L) (by simpa using hi) hj];rfl
abbrev Qac (β:Type):=Option W6 × (Nat→β)
structure ElOk {β:Type} (W:World) (f:β→List AV) (Tb:H→β→Prop) (vs:List Value) (x:Qac β):Prop where
  good:∀ r,x.1=some r→∀ μ,Xf μ W r
  rel:∀ (id:Nat) (μ:Mu),(∀ r,x.1=some r→μ id=some (r.1,r.2.1)∧μ.sz id=YG W r.1)→AV.relL μ (f (x.2 id)) vs
  told:∀ (id:Nat) (h:H),h.get id=Wx x.1→id < h.next→Tb h (x.2 id)
section
variable {H':Type} {enc:TypeId × Value→H'} {P:Program} {W:World} {base:Nat} {hd:Bool}
theorem flat_in {β:Type} {f:β→List AV} {t e:TypeId} {S fuel b0 o0:Nat} {tt0:TypeId} {ccs0:Array Value} {fr0:Nat × Nat} {v:Value} {y:DataW H' × List MemPlace} (hb0:W.heap[b0]?=some (.cells ccs0 tt0 fr0)) (ho0:o0≤ccs0.size)
    (ht:P.underlying t=some (.slice e)) (hS:P.cellsOf e=S) (h0:0 < S) (hf:∀ b,(f b).length=S)
    (h:DataW.trod enc P W base (fun _=>true) hd fuel t [v]=some y)
    (hel:∀ (fuel':Nat) (cs:List Value) (y':DataW H' × List MemPlace),cs.length=S→DataW.trod enc P W base (fun _=>true) hd fuel' e cs=some y'→∃ b,AV.relL J8 (f b) cs) :
    ∃ (q:Option W6) (mk:Nat→AV) (L:List β),(∀ r,q=some r→∀ μ,Xf μ W r)∧(∀ n,ZB (mk n)=true)∧(∀ (id:Nat) (μ:Mu),(∀ r,q=some r→μ id=some (r.1,r.2.1)∧μ.sz id=YG W r.1)→AV.rel μ (mk id) v)∧(∀ (id:Nat) (h:H),h.get id=Wx q→id < h.next→RowAt f S h (mk id) L)∧∀ m,(∀ x∈y.1.weights P t,x≤m)→L.length * P.bytesOf e≤m:=by
  rcases Qa7 ht hS h0 h with rfl | ⟨a,rfl⟩ | ⟨b,o,len,c,tt,ccs,fr,rfl,hlc,hb,hoc,hel',hwt⟩
  · exact ⟨none,fun _=>.nils,[],fun r e=>(by cases e),fun _=>rfl,fun id μ _=>by simp only [AV.rel],fun id h _ _=>.inl ⟨rfl,rfl⟩,fun m _=>by simp⟩
  · refine ⟨some (b0, o0, .cells true tt0 []), fun n => .slice n 0 0 0 S false, [], fun r e μ => ?_, fun _ => rfl, fun id μ hμ => ?_, fun id h hg hn => .inr ⟨id, 0, false, true, tt0, rfl, hg, hn⟩, fun m _ => by simp⟩
    · injection e with e; subst e
      exact ⟨⟨ccs0,tt0,fr0,hb0⟩,⟨ccs0,fr0,hb0,fun i a ha=>(by simp at ha),fun e=>(by cases e),fun e=>(by cases e)⟩,fun t cs e=>(by cases e)⟩
    · obtain ⟨h1, h2⟩ := hμ _ rfl
      simp only [AV.rel]
      refine ⟨b0,o0,0,o0,a,h1,rfl,.inr rfl,fun q=>absurd q (by omega),Nat.le_refl _,fun q=>(by cases q),Nat.le_refl _,Nat.le_refl _,?_⟩
      rw [h2];unfold YG;rw [hb0];simp only [Nat.zero_mul,Nat.add_zero];exact ho0
  · have one : ∀ i, i < len → ∃ x : β, ∃ vs : List Value, (∀ j, j < S → ccs[o + i * S + j]? = vs[j]?) ∧ AV.relL J8 (f x) vs := fun i hi => by
      obtain ⟨fuel',y',cs,q1,q2,q3,_⟩:=hel' i hi
      obtain ⟨x,hx⟩:=hel fuel' cs y' q2 q1
      exact ⟨x,cs,q3,hx⟩
    obtain ⟨L,hL,hp⟩:=Qaz len one
    refine ⟨some (b,o,.cells true tt (L.flatMap f)),fun n=>.slice n 0 len len S false,L,fun r e μ=>?_,fun _=>rfl,fun id μ hμ=>?_,fun id h hg hn=>.inr ⟨id,len,false,true,tt,by rw [hL],hg,hn⟩,fun m hm=>by rw [hL];exact hwt m hm⟩
    · injection e with e; subst e
      refine ⟨⟨ccs,tt,fr,hb⟩,⟨ccs,fr,hb,fun k a ha=>?_,fun e=>(by cases e),fun e=>(by cases e)⟩,fun t cs e=>(by cases e)⟩
      have hk:k < L.length * S:=by rw [← ZS hf];exact (List.getElem?_eq_some_iff.1 ha).1
      have hj:k % S < S:=Nat.mod_lt _ h0
      have hi:k / S < L.length:=Nat.div_lt_of_lt_mul (by rw [Nat.mul_comm];exact hk)
      have ek:k=k / S * S+k % S:=by rw [Nat.mul_comm];exact (Nat.div_add_mod k S).symm
      rw [ek,QaH hf hi hj] at ha
      obtain ⟨vs,hvs,ok⟩:=hp _ _ (List.getElem?_eq_getElem hi)
      obtain ⟨v,hv,hr⟩:=(relL_get ok).2 (k % S) a ha
      refine ⟨v,?_,AV.rel_mono (fun _ _ h=>by cases h) a v hr⟩
      have:=hvs (k % S) hj
      rw [hv,show o+k / S * S+k % S=o+k by omega] at this
      exact this
    · obtain ⟨h1, h2⟩ := hμ _ rfl
      simp only [AV.rel]
      refine ⟨b,o,c,o,_,h1,rfl,.inl rfl,fun _=>rfl,by omega,fun h=>(by cases h),Nat.le_refl _,Nat.le_refl _,?_⟩
      rw [h2];unfold YG;rw [hb];exact hoc
theorem nest_in {β : Type} {f : β → List AV} {Tb : H → β → Prop} {t e : TypeId} {S fuel : Nat} {v : Value} {y : DataW H' × List MemPlace} {r : Reach} {b0 : Nat} (hok : Cell.okWide P W r b0 t v) (ht : P.underlying t = some (.slice e)) (hS : P.cellsOf e = S) (h0 : 0 < S) (hf : ∀ b, (f b).length = S)
    (h:DataW.trod enc P W base (fun _=>true) hd fuel t [v]=some y)
    (hel:∀ (b0 o0:Nat) (tt0:TypeId) (ccs0:Array Value) (fr0:Nat × Nat) (fuel':Nat) (cs:List Value) (y':DataW H' × List MemPlace),W.heap[b0]?=some (.cells ccs0 tt0 fr0)→o0≤ccs0.size→cs.length=S→DataW.trod enc P W base (fun _=>true) hd fuel' e cs=some y'→(∀ q∈y'.1.weights P e,q∈y.1.weights P t)→∃ x:Qac β,ElOk W f Tb cs x) (n0:Nat) :
    ∃ (rs:List (Option W6)) (a:AV) (L:List β),InPk W v n0 rs a (fun h=>RowAt f S h a L∧∀ b∈L,Tb h b)∧∀ m,(∀ x∈y.1.weights P t,x≤m)→L.length * P.bytesOf e≤m:=by
  rcases Qa7 ht hS h0 h with rfl | ⟨a,rfl⟩ | ⟨b,o,len,c,tt,ccs,fr,rfl,hlc,hb,hoc,hel',hwt⟩
  · exact ⟨[],.nils,[],⟨fun μ _ j r e=>(by simp at e),fun μ _=>by simp only [AV.rel],fun h _=>⟨.inl ⟨rfl,rfl⟩,fun b hb=>(by cases hb)⟩⟩,fun m _=>by simp⟩
  · unfold Cell.okWide at hok
    simp only [ht] at hok
    unfold Cell.ok at hok
    simp only [ht] at hok
    obtain ⟨_,_,hhas⟩:=hok
    obtain ⟨hsp,ccs0,tt0,fr0,hb,hoff⟩:=has_row hhas
    obtain ⟨b1,o1,spot⟩:=a
    simp only at hsp;subst hsp
    simp only at hb hoff
    refine ⟨[some (b1,o1,.cells true tt0 [])],.slice n0 0 0 0 S false,[],⟨fun μ _ j r e=>?_,fun μ hμ=>?_,fun h hh=>?_⟩,fun m _=>by simp⟩
    · cases j with
      | succ j=>simp at e
      | zero =>
        injection e with e;injection e with e;subst e
        exact ⟨⟨ccs0,tt0,fr0,hb⟩,⟨ccs0,fr0,hb,fun i a ha=>(by simp at ha),fun e=>(by cases e),fun e=>(by cases e)⟩,fun t cs e=>(by cases e)⟩
    · obtain ⟨h1, h2⟩ := hμ 0 _ rfl
      rw [Nat.add_zero] at h1 h2
      simp only [AV.rel]
      refine ⟨b1,o1,0,o1,_,h1,rfl,.inl rfl,fun q=>absurd q (by omega),Nat.le_refl _,fun q=>(by cases q),Nat.le_refl _,Nat.le_refl _,?_⟩
      rw [h2];unfold YG;rw [hb];simp only [Nat.zero_mul,Nat.add_zero];exact hoff
    · obtain ⟨h1, h2⟩ := hh 0 _ rfl
      rw [Nat.add_zero] at h1 h2
      exact ⟨.inr ⟨n0,0,false,true,tt0,rfl,h1,h2⟩,fun b hb=>(by cases hb)⟩
  · have hos : o ≤ ccs.size := by omega
    have one:∀ i,i < len→∃ x:Qac β,∃ vs:List Value,(∀ j,j < S→ccs[o+i * S+j]?=vs[j]?)∧ElOk W f Tb vs x:=fun i hi=>by
      obtain ⟨fuel',y',cs,q1,q2,q3,q4⟩:=hel' i hi
      obtain ⟨x,hx⟩:=hel b o tt ccs fr fuel' cs y' hb hos q2 q1 q4
      exact ⟨x,cs,q3,hx⟩
    obtain ⟨E,hE,hp⟩:=Qaz len one
    let L:List β:=E.zipIdx.map fun (x:Qac β × Nat)=>x.1.2 (n0+(1+x.2))
    have hL:L.length=len:=by simp [L,hE]
    let rs:List (Option W6):=some (b,o,.cells true tt (L.flatMap f))::E.map (·.1)
    have getL:∀ i q,L[i]?=some q→∃ x:Qac β,E[i]?=some x∧q=x.2 (n0+(1+i)):=by
      intro i q hq
      simp only [L,List.getElem?_map,List.getElem?_zipIdx,Option.map_eq_some_iff] at hq
      obtain ⟨z,⟨x,hx,rfl⟩,rfl⟩:=hq
      exact ⟨x,hx,by simp⟩
    have getR:∀ i x,E[i]?=some x→rs[1+i]?=some x.1:=by
      intro i x hx
      show (some (b,o,_)::E.map (·.1))[1+i]?=_
      rw [Nat.add_comm 1 i,List.getElem?_cons_succ,List.getElem?_map,hx];rfl
    refine ⟨rs,.slice n0 0 len len S false,L,⟨fun μ hμ j r e=>?_,fun μ hμ=>?_,fun h hh=>⟨.inr ⟨n0,len,false,true,tt,by rw [hL],?_⟩,fun q hq=>?_⟩⟩,fun m hm=>by rw [hL];exact hwt m hm⟩
    · cases j with
      | succ j =>
        have e:(E.map (·.1))[j]?=some (some r):=e
        rw [List.getElem?_map,Option.map_eq_some_iff] at e
        obtain ⟨x,hx,e⟩:=e
        obtain ⟨w,_,ok⟩:=hp j x hx
        exact ok.good r e μ
      | zero =>
        injection e with e;injection e with e;subst e
        refine ⟨⟨ccs,tt,fr,hb⟩,⟨ccs,fr,hb,fun k a ha=>?_,fun e=>(by cases e),fun e=>(by cases e)⟩,fun t cs e=>(by cases e)⟩
        have hk:k < L.length * S:=by rw [← ZS hf];exact (List.getElem?_eq_some_iff.1 ha).1
        have hj:k % S < S:=Nat.mod_lt _ h0
        have hi:k / S < L.length:=Nat.div_lt_of_lt_mul (by rw [Nat.mul_comm];exact hk)
        have ek:k=k / S * S+k % S:=by rw [Nat.mul_comm];exact (Nat.div_add_mod k S).symm
        rw [ek,QaH hf hi hj] at ha
        obtain ⟨x,hx,hq⟩:=getL (k / S) _ (List.getElem?_eq_getElem hi)
        obtain ⟨vs,hvs,ok⟩:=hp _ x hx
        rw [hq] at ha
        have hr:=ok.rel (n0+(1+k / S)) μ fun r hr=>hμ (1+k / S) r (by rw [getR _ x hx,hr])
        obtain ⟨v,hv,hr⟩:=(relL_get hr).2 (k % S) a ha
        refine ⟨v,?_,hr⟩
        have:=hvs (k % S) hj
        rw [hv,show o+k / S * S+k % S=o+k by omega] at this
        exact this
    · obtain ⟨h1, h2⟩ := hμ 0 _ (show rs[0]? = some _ from rfl)
      rw [Nat.add_zero] at h1 h2
      simp only [AV.rel]
      refine ⟨b,o,c,o,_,h1,rfl,.inl rfl,fun _=>rfl,by omega,fun h=>(by cases h),Nat.le_refl _,Nat.le_refl _,?_⟩
      rw [h2];unfold YG;rw [hb];exact hoc
    · have := hh 0 _ (show rs[0]? = some _ from rfl)
      rw [Nat.add_zero] at this
      exact this
    · obtain ⟨i, hi⟩ := List.getElem?_of_mem hq
      obtain ⟨x,hx,rfl⟩:=getL i q hi
      obtain ⟨w,_,ok⟩:=hp i x hx
      obtain ⟨h1,h2⟩:=hh (1+i) _ (getR i x hx)
      exact ok.told _ h h1 h2
end
end Go.Am
