import Derived.Test.YtodlaigjjknpkaaGreatDoorAmL7
import Derived.Test.YtodlaigjjknpkaaGreatDoorSvA2
namespace Go.Am
open Go Go.ChangeShapes Go.WideShapes Go.RowKit
set_option linter.all false
set_option maxRecDepth 100000
def Ws : Option YW→Blk
  | none=>.dead
  | some r=>blkIn r
def Ds (W : World) (r : YW) : Prop:=∃ (ccs : Array Value) (fr : Nat × Nat),W.heap[r.1]? = some (.cells ccs r.2.2.1 fr) ∧ ∀ (j : Nat) (a : AV),r.2.2.2[j]? = some a→∃ v,ccs[r.2.1 + j]? = some v ∧ AV.rel YF a v
def KW (gs : List Blk) (rs : List (Option YW)) (W : World) : Mu :=
  ⟨fun id=>if id < gs.length then (if (gs.getD id .dead).live = true then some (id,0) else none) else ((rs.getD (id - gs.length) none).map fun r=>(r.1,r.2.1)),
   fun id=>if id < gs.length then Y5 W id else match rs.getD (id - gs.length) none with
     | some r=>Y5 W r.1
     | none=>0⟩
theorem QbV {gs : List Blk} {rs : List (Option YW)} {W : World} {id : Nat} (h : id < gs.length) : KW gs rs W id = if (gs.getD id .dead).live = true then some (id,0) else none:=by
  show (if id < gs.length then _ else _) = _
  rw [if_pos h]
theorem QbW {gs : List Blk} {rs : List (Option YW)} {W : World} {id : Nat} (h : gs.length ≤ id) : KW gs rs W id = (rs.getD (id - gs.length) none).map fun r=>(r.1,r.2.1):=by
  show (if id < gs.length then _ else _) = _
  rw [if_neg (by omega)]
theorem DS {gs : List Blk} {rs : List (Option YW)} {W : World} {i : Nat} {r : YW} (h : rs[i]? = some (some r)) : KW gs rs W (gs.length + i) = some (r.1,r.2.1) ∧ (KW gs rs W).sz (gs.length + i) = Y5 W r.1:=by
  have e : rs.getD (gs.length + i - gs.length) none = some r:=by rw [Nat.add_sub_cancel_left,List.getD_eq_getElem?_getD,h]; rfl
  constructor
  · rw [QbW (Nat.le_add_right _ _),e]; rfl
  · show (if gs.length + i < gs.length then _ else _) = _
    rw [if_neg (by omega),e]
theorem JS (gs : List Blk) (rs : List (Option YW)) (id : Nat) : (Hg (gs ++ rs.map Ws)).get id = if id < gs.length then gs.getD id .dead else Ws (rs.getD (id - gs.length) none):=by
  rw [Qf1,List.getD_eq_getElem?_getD]
  by_cases h : id < gs.length
  · rw [if_pos h,List.getElem?_append_left h,List.getD_eq_getElem?_getD]
  · rw [if_neg h, List.getElem?_append_right (by omega), List.getElem?_map, List.getD_eq_getElem?_getD]
    cases rs[id - gs.length]? <;> rfl
theorem rel_hgin {W : World} {gs : List Blk} {rs : List (Option YW)} (h : ∀ g b, gs[g]? = some b → GlOk W g b) (hr : ∀ (i : Nat) (r : YW), rs[i]? = some (some r) → Ds W r) :
    Rel (KW gs rs W) (Hg (gs ++ rs.map Ws)) W ∧ ∀ id b d,(Hg (gs ++ rs.map Ws)).base ≤ id→KW gs rs W id = some (b,d)→((Hg (gs ++ rs.map Ws)).get id).live = false:=by
  have hlen : (gs ++ rs.map Ws).length = gs.length + rs.length:=by simp
  have hlive : ∀ g,g < gs.length→(gs.getD g .dead).live = true→∃ (t : Nat) (cs : List AV) (ccs : Array Value),gs.getD g .dead = .cells false t cs ∧ W.heap[g]? = some (.cells ccs t (0,0)) ∧ ∀ (i : Nat) (a : AV),cs[i]? = some a→∃ v,ccs[i]? = some v ∧ AV.rel YF a v:=by
    intro g hl hg
    have he : gs[g]? = some gs[g]:=List.getElem?_eq_getElem hl
    rw [List.getD_eq_getElem?_getD,he] at hg ⊢
    rcases h g gs[g] he with e | ⟨t,cs,ccs,e,h1,h2⟩
    · simp only [Option.getD_some] at hg; rw [e] at hg; cases hg
    · exact ⟨t,cs,ccs,e,h1,h2⟩
  have hm : ∀ id b d, KW gs rs W id = some (b, d) → (id < gs.length ∧ b = id ∧ d = 0 ∧ (gs.getD id .dead).live = true) ∨ ∃ i r, id = gs.length + i ∧ rs[i]? = some (some r) ∧ b = r.1 ∧ d = r.2.1 := by
    intro id b d e
    by_cases hl : id < gs.length
    · rw [QbV hl] at e
      split at e
      · rename_i hv; injection e with e; injection e with e1 e2; exact .inl ⟨hl,e1.symm,e2.symm,hv⟩
      · cases e
    · rw [QbW (by omega), List.getD_eq_getElem?_getD] at e
      cases hq : rs[id - gs.length]? with
      | none=>rw [hq] at e; cases e
      | some o =>
        rw [hq] at e
        cases o with
        | none=>cases e
        | some r =>
          injection e with e; injection e with e1 e2
          exact .inr ⟨id - gs.length,r,by omega,hq,e1.symm,e2.symm⟩
  refine ⟨⟨⟨Nat.le_refl _⟩,fun id b d e=>?_,fun i j b d e hi hj _ _ hbj=>?_,fun id b d e=>?_,fun id b d ccs t fr e hw=>?_,fun g t cs hg e=>?_⟩,fun id b d hb e=>?_⟩
  · show id < (gs ++ rs.map Ws).length ∧ b < W.heap.size
    rw [hlen]
    rcases hm id b d e with ⟨h1,rfl,rfl,h2⟩ | ⟨i,r,rfl,h1,rfl,rfl⟩
    · obtain ⟨t, cs, ccs, _, h3, _⟩ := hlive _ h1 h2
      exact ⟨by omega,(Array.getElem?_eq_some_iff.1 h3).1⟩
    · obtain ⟨ccs, fr, h3, _⟩ := hr i r h1
      have:=(List.getElem?_eq_some_iff.1 h1).1
      exact ⟨by omega,(Array.getElem?_eq_some_iff.1 h3).1⟩
  · have hbj : (gs ++ rs.map Ws).length ≤ j := hbj
    rw [hlen] at hbj
    rcases hm j b e hj with ⟨h1,_⟩ | ⟨i',r,rfl,h1,_⟩
    · omega
    · have:=(List.getElem?_eq_some_iff.1 h1).1; omega
  · rcases hm id b d e with ⟨h1, rfl, rfl, h2⟩ | ⟨i, r, rfl, h1, rfl, rfl⟩
    · obtain ⟨t, cs, ccs, h0, h3, h4⟩ := hlive _ h1 h2
      rw [JS,if_pos h1,h0]
      exact ⟨ccs,(0,0),h3,fun i a ha=>by
        obtain ⟨v,hv,hr⟩:=h4 i a ha
        exact ⟨v,by rw [Nat.zero_add]; exact hv,AV.rel_mono (fun _ _ h=>by cases h) a v hr⟩,fun _ o _ _ h=>by simp at h,fun _=>rfl⟩
    · obtain ⟨ccs, fr, h3, h4⟩ := hr i r h1
      have hf : Nat.ble (Hg (gs ++ rs.map Ws)).base (gs.length + i) = false:=by
        cases q : Nat.ble (Hg (gs ++ rs.map Ws)).base (gs.length + i)
        · rfl
        · rw [Qv] at q
          have q : (gs ++ rs.map Ws).length ≤ gs.length + i:=q
          have:=(List.getElem?_eq_some_iff.1 h1).1
          omega
      have eb : (Hg (gs ++ rs.map Ws)).get (gs.length + i) = blkIn r:=by
        rw [JS,if_neg (by omega),Nat.add_sub_cancel_left,List.getD_eq_getElem?_getD,h1]; rfl
      rw [eb,hf]
      exact ⟨ccs,fr,h3,fun j a ha=>let ⟨v,hv,hq⟩:=h4 j a ha; ⟨v,hv,AV.rel_mono (fun _ _ h=>by cases h) a v hq⟩,fun q=>(by cases q),fun q=>(by cases q)⟩
  · rcases hm id b d e with ⟨h1, rfl, rfl, h2⟩ | ⟨i, r, rfl, h1, rfl, rfl⟩
    · show ccs.size = (if b < gs.length then Y5 W b else _)
      rw [if_pos h1]; unfold Y5; rw [hw]
    · rw [(DS (gs:=gs) (W:=W) h1).2]; unfold Y5; rw [hw]
  · rw [JS] at e
    by_cases hl : g < gs.length
    · rw [if_pos hl] at e
      rw [QbV hl,e]; rfl
    · rw [if_neg hl, List.getD_eq_getElem?_getD] at e
      cases hq : rs[g - gs.length]? with
      | none=>rw [hq] at e; cases e
      | some o =>
        rw [hq] at e
        cases o with
        | none=>cases e
        | some r=>cases e
  · have hb : (gs ++ rs.map Ws).length ≤ id := hb
    rw [hlen] at hb
    rcases hm id b d e with ⟨h1,_⟩ | ⟨i',r,rfl,h1,_⟩
    · omega
    · have:=(List.getElem?_eq_some_iff.1 h1).1; omega
theorem rel_laidIn {P : Program} {W : World} {laid : List (String × DataW Unit)} (hl : laidMetH P laid W) (hp : (laid.filter fun x=>x.2.handleName?.isSome) = []) {rs : List (Option YW)} (hr : ∀ (i : Nat) (r : YW),rs[i]? = some (some r)→Ds W r) :
    ∃ ts us,Rel (KW (ZR P laid ts us) rs W) (Hg (ZR P laid ts us ++ rs.map Ws)) W ∧ ∀ id b d,(Hg (ZR P laid ts us ++ rs.map Ws)).base ≤ id→KW (ZR P laid ts us) rs W id = some (b,d)→((Hg (ZR P laid ts us ++ rs.map Ws)).get id).live = false:=by
  unfold laidMetH at hl
  rw [hp] at hl
  have h:=glBlk_ok (show laidMet P laid W from hl)
  refine ⟨fun g=>(h g).choose,fun g=>(h g).choose_spec.choose,rel_hgin (fun g b e=>?_) hr⟩
  unfold ZR at e
  rw [List.getElem?_map,Option.map_eq_some_iff] at e
  obtain ⟨g',e1,rfl⟩:=e
  obtain rfl : g' = g:=by
    rw [List.getElem?_range] at e1
    · injection e1 with e1; exact e1.symm
    · have:=(List.getElem?_eq_some_iff.1 e1).1; simpa using this
  exact (h g').choose_spec.choose_spec _ _ rfl rfl
def SlIn {α : Type} (W : World) (f : α → List AV) (es : Nat) (v : Value) (l : List α) : Prop :=
  (v = .slice none 0 0 ∧ l = []) ∨ ∃ (b o c : Nat) (tt : TypeId) (ccs : Array Value) (fr : Nat × Nat),v = .slice (some ⟨b,o,none⟩) l.length c ∧ l.length ≤ c ∧ W.heap[b]? = some (.cells ccs tt fr) ∧ o + c * es ≤ ccs.size ∧
    ∀ (j : Nat) (a : AV),(l.flatMap f)[j]? = some a→∃ x,ccs[o + j]? = some x ∧ AV.rel YF a x
theorem SlIn.pack {α : Type} {W : World} {f : α→List AV} {es : Nat} {v : Value} {l : List α} (h : SlIn W f es v l) : ∃ q : Option YW,(∀ r,q = some r→Ds W r) ∧ ∀ id : Nat,∃ a : AV,
    (∀ μ : Mu,(∀ r,q = some r→μ id = some (r.1,r.2.1) ∧ μ.sz id = Y5 W r.1)→AV.rel μ a v) ∧ (∀ h : H,h.get id = Ws q→id < h.next→RowAt f es h a l) ∧ ∀ id o n c es ex,a = .slice id o n c es ex→n ≤ c:=by
  rcases h with ⟨rfl,rfl⟩ | ⟨b,o,c,tt,ccs,fr,rfl,hlc,hb,hoc,hcell⟩
  · exact ⟨none,fun r e=>(by cases e),fun id=>⟨.nils,fun μ _=>by simp only [AV.rel],fun h _ _=>.inl ⟨rfl,rfl⟩,fun _ _ _ _ _ _ e=>(by cases e)⟩⟩
  · refine ⟨some (b, o, tt, l.flatMap f), fun r e => ?_, fun id => ⟨.slice id 0 l.length l.length es false, fun μ hμ => ?_, fun h hg hn => .inr ⟨id, _, _, _, _, rfl, hg, hn⟩, fun _ _ _ _ _ _ e => ?_⟩⟩
    · injection e with e; subst e
      exact ⟨ccs,fr,hb,hcell⟩
    · obtain ⟨h1, h2⟩ := hμ _ rfl
      simp only [AV.rel]
      refine ⟨b,o,c,o,_,h1,rfl,.inl rfl,fun _=>rfl,hlc,fun h=>(by cases h),Nat.le_refl _,Nat.le_refl _,?_⟩
      rw [h2]; unfold Y5; rw [hb]; exact hoc
    · injection e with _ _ e1 e2; omega
theorem Uf {α β : Type} {f : α → Option β} : ∀ {l : List α} {r : List β}, l.mapM f = some r → r.length = l.length ∧ ∀ (j : Nat) (a : α), l[j]? = some a → ∃ b, f a = some b ∧ r[j]? = some b
  | [], r, h => by
    have h : some [] = some r:=h
    injection h with h; subst h
    exact ⟨rfl,fun j a e=>by simp at e⟩
  | x :: l, r, h => by
    rw [List.mapM_cons] at h
    cases hx : f x with
    | none=>rw [hx] at h; cases h
    | some y =>
      cases hl : l.mapM f with
      | none=>rw [hx,hl] at h; cases h
      | some ys =>
        rw [hx,hl] at h
        have h : some (y :: ys) = some r:=h
        injection h with h; subst h
        obtain ⟨h1,h2⟩:=Uf hl
        refine ⟨by simp [h1],fun j a e=>?_⟩
        cases j with
        | zero=>injection e with e; subst e; exact ⟨y,hx,rfl⟩
        | succ j=>exact h2 j a e
theorem Uy {n j : Nat} (h : j < n) : (List.range n)[j]? = some j:=by rw [List.getElem?_range h]
theorem add_at (b o m : Nat) : (⟨b,o,none⟩ : Addr).add m = ⟨b,o + m,none⟩:=by
  unfold Addr.add; split
  · rename_i h0; subst h0; rfl
  · rfl
theorem cells_at {w : World} {base b o n : Nat} {cs : List Value} {ccs : Array Value} {t : TypeId} {fr : Nat × Nat} (h : w.cells? base ⟨b,o,none⟩ n = some cs) (hb : w.heap[b]? = some (.cells ccs t fr)) : cs.length = n ∧ ∀ (j : Nat) (v : Value),cs[j]? = some v→ccs[o + j]? = some v:=by
  unfold World.cells? at h
  split at h
  · obtain ⟨h1, h2⟩ := Uf h
    refine ⟨by rw [h1,List.length_range],fun j v e=>?_⟩
    have hj : j < n:=by
      have:=(List.getElem?_eq_some_iff.1 e).1
      rw [h1,List.length_range] at this; exact this
    obtain ⟨x,hx,hr⟩:=h2 j j (Uy hj)
    rw [hr] at e; injection e with e; subst e
    exact cell_add hb hx
  · cases h
theorem relL_get {μ : Mu} : ∀ {as : List AV} {vs : List Value},AV.relL μ as vs→as.length = vs.length ∧ ∀ (j : Nat) (a : AV),as[j]? = some a→∃ v,vs[j]? = some v ∧ AV.rel μ a v
  | [],vs,h=>by rw [AV.relL_nil.1 h]; exact ⟨rfl,fun j a e=>by simp at e⟩
  | a :: as, vs, h => by
    obtain ⟨v,vs',rfl,h1,h2⟩:=AV.relL_cons.1 h
    obtain ⟨q1,q2⟩:=relL_get h2
    refine ⟨by simp [q1],fun j b e=>?_⟩
    cases j with
    | zero=>injection e with e; subst e; exact ⟨v,rfl,h1⟩
    | succ j=>exact q2 j b e
theorem Wy {μ : Mu} : ∀ {as : List AV} {vs : List Value} (i : Nat) {a : AV},AV.relL μ as vs→(∀ v,vs[i]? = some v→AV.rel μ a v)→AV.relL μ (as.set i a) vs
  | [],vs,i,a,h,_=>h
  | b :: as, vs, i, a, h, ha => by
    obtain ⟨v,vs',rfl,h1,h2⟩:=AV.relL_cons.1 h
    cases i with
    | zero=>exact AV.relL_cons_cons.2 ⟨ha v rfl,h2⟩
    | succ i=>exact AV.relL_cons_cons.2 ⟨h1,Wy i h2 fun v hv=>ha v hv⟩
section
variable {H' : Type} {enc : TypeId × Value→H'} {P : Program} {w : World} {base : Nat} {hd : Bool}
theorem Vd {α : Type} {f : α → List AV} {t e : TypeId} {es : Nat} {r : Reach} {b0 fuel : Nat} {v : Value} {y : DataW H' × List MemPlace} (ht : P.underlying t = some (.slice e)) (hc : P.cellsOf e = es) (hes : 0 < es) (hf : ∀ a, (f a).length = es)
    (hel : ∀ (fuel : Nat) (cs : List Value) (y : DataW H' × List MemPlace),cs.length = es→DataW.trod enc P w base (fun _=>true) hd fuel e cs = some y→∃ a,AV.relL YF (f a) cs) (hok : Cell.okWide P w r b0 t v)
    (h : DataW.trod enc P w base (fun _=>true) hd fuel t [v] = some y) : ∃ l : List α,SlIn w f es v l ∧ ∀ m,(∀ x ∈ y.1.weights P t,x ≤ m)→l.length * P.bytesOf e ≤ m:=by
  cases fuel with
  | zero=>unfold DataW.trod at h; cases h
  | succ fuel =>
    unfold Cell.okWide at hok
    simp only [ht] at hok
    unfold Cell.ok at hok
    simp only [ht] at hok
    unfold DataW.trod at h
    simp only [ht] at h
    cases v <;> first | (exact hok.elim) | skip
    rename_i p len c
    cases p with
    | none =>
      cases len <;> cases c <;> first | (exact ⟨[],.inl ⟨rfl,rfl⟩,fun m _=>by simp⟩) | (cases h; done)
    | some a =>
      obtain ⟨hle,_,hhas⟩:=hok
      obtain ⟨hsp,ccs,tt,fr,hb,hoff⟩:=has_row hhas
      obtain ⟨b,o,spot⟩:=a
      simp only at hsp; subst hsp
      simp only at hb hoff h
      split at h
      · cases hm : (List.range len).mapM (fun i => (w.cells? base ((⟨b, o, none⟩ : Addr).add (i * P.cellsOf e)) (P.cellsOf e)).bind (DataW.trod enc P w base (fun _ => true) hd fuel e)) with
        | none=>rw [hm] at h; cases h
        | some elems =>
          rw [hm] at h
          simp only [Option.bind_some,if_true] at h
          cases hm2 : (List.range (c - len)).mapM (fun j=>(w.cells? base ((⟨b,o,none⟩ : Addr).add ((len + j) * P.cellsOf e)) (P.cellsOf e)).bind (DataW.trod enc P w base (fun _=>true) hd fuel e)) with
          | none=>rw [hm2] at h; cases h
          | some rest =>
            rw [hm2] at h
            simp only [Option.map_some] at h
            injection h with h
            have cell : ∀ i y,(w.cells? base ((⟨b,o,none⟩ : Addr).add (i * P.cellsOf e)) (P.cellsOf e)).bind (DataW.trod enc P w base (fun _=>true) hd fuel e) = some y→(∃ a : α,∀ (j : Nat) (x : AV),(f a)[j]? = some x→∃ v,ccs[o + i * es + j]? = some v ∧ AV.rel YF x v) ∧ o + i * es + es ≤ ccs.size:=by
              intro i y hy
              rw [hc,add_at] at hy
              cases hcs : w.cells? base ⟨b,o + i * es,none⟩ es with
              | none=>rw [hcs] at hy; cases hy
              | some cs =>
                rw [hcs] at hy
                obtain ⟨q1,q2⟩:=cells_at hcs hb
                obtain ⟨a,ha⟩:=hel fuel cs y q1 hy
                obtain ⟨q3,q4⟩:=relL_get ha
                refine ⟨⟨a,fun j x hx=>?_⟩,?_⟩
                · obtain ⟨v, hv, hr⟩ := q4 j x hx
                  exact ⟨v,q2 j v hv,hr⟩
                · have hl : es - 1 < cs.length := by omega
                  have:=(Array.getElem?_eq_some_iff.1 (q2 (es - 1) cs[es - 1] (List.getElem?_eq_getElem hl))).1
                  omega
            obtain ⟨e1,e2⟩:=Uf hm
            obtain ⟨e3,e4⟩:=Uf hm2
            have front : ∀ i,i < len→∃ a : α,∀ (j : Nat) (x : AV),(f a)[j]? = some x→∃ v,ccs[o + i * es + j]? = some v ∧ AV.rel YF x v:=fun i hi=>by
              obtain ⟨y,hy,_⟩:=e2 i i (Uy hi)
              exact (cell i y hy).1
            have back : ∀ i,i < c→o + i * es + es ≤ ccs.size:=fun i hi=>by
              rcases Nat.lt_or_ge i len with h1 | h1
              · obtain ⟨y, hy, _⟩ := e2 i i (Uy h1)
                exact (cell i y hy).2
              · obtain ⟨y, hy, _⟩ := e4 (i - len) (i - len) (Uy (by omega))
                have hy : (w.cells? base ((⟨b,o,none⟩ : Addr).add ((len + (i - len)) * P.cellsOf e)) (P.cellsOf e)).bind (DataW.trod enc P w base (fun _=>true) hd fuel e) = some y:=hy
                rw [show len + (i - len) = i by omega] at hy
                exact (cell i y hy).2
            have pick : ∀ n,n ≤ len→∃ l : List α,l.length = n ∧ ∀ (j : Nat) (x : AV),(l.flatMap f)[j]? = some x→∃ v,ccs[o + j]? = some v ∧ AV.rel YF x v:=by
              intro n
              induction n with
              | zero=>intro _; exact ⟨[],rfl,fun j x hx=>by simp at hx⟩
              | succ n ih =>
                intro hn
                obtain ⟨l,h1,h2⟩:=ih (by omega)
                obtain ⟨a,ha⟩:=front n (by omega)
                refine ⟨l ++ [a],by simp [h1],fun j x hx=>?_⟩
                have hfl:=YI hf l
                rw [List.flatMap_append] at hx
                by_cases hj : j < (l.flatMap f).length
                · rw [List.getElem?_append_left hj] at hx
                  exact h2 j x hx
                · rw [List.getElem?_append_right (by omega)] at hx
                  have hx : (f a)[j - (l.flatMap f).length]? = some x:=by simpa using hx
                  obtain ⟨v,hv,hr⟩:=ha _ x hx
                  rw [hfl,h1] at hv hj
                  exact ⟨v,by rw [show o + j = o + n * es + (j - n * es) by omega]; exact hv,hr⟩
            obtain ⟨l,h1,h2⟩:=pick len (Nat.le_refl _)
            refine ⟨l,.inr ⟨b,o,c,tt,ccs,fr,by rw [h1],by rw [h1]; exact hle,hb,?_,h2⟩,fun m hm=>?_⟩
            · rcases Nat.eq_zero_or_pos c with h0 | h0
              · rw [h0,Nat.zero_mul]; omega
              · have := back (c - 1) (by omega)
                have e5 : (c - 1) * es + es = c * es:=by
                  rw [← Nat.succ_mul,show (c - 1).succ = c by omega]
                omega
            · have := hm ((elems.map (·.1)).length + (rest.map (·.1)).length |> (· * P.bytesOf e)) (by
                rw [← h]; unfold DataW.weights; simp only [ht]; exact List.mem_cons_self)
              have h6 : ((elems.map (·.1)).length + (rest.map (·.1)).length) * P.bytesOf e ≤ m:=this
              simp only [List.length_map,e1,e3,List.length_range] at h6
              rw [h1]
              exact Nat.le_trans (Nat.mul_le_mul_right _ (by omega)) h6
      · cases h
theorem Zb {sp : Nat → Bool} {t : TypeId} {fs : Array Field} {fuel : Nat} {cs : List Value} {y : DataW H' × List MemPlace} (ht : P.underlying t = some (.struct fs)) (h : DataW.trod enc P w base sp hd fuel t cs = some y) (i : Nat) {f : Field} (hf : fs.toList[i]? = some f) :
    ∃ fuel' y',DataW.trod enc P w base sp hd fuel' f.type ((cs.drop f.offset).take (P.cellsOf f.type)) = some y' ∧ ∀ x ∈ y'.1.weights P f.type,x ∈ y.1.weights P t:=by
  cases fuel with
  | zero=>unfold DataW.trod at h; cases h
  | succ fuel =>
    unfold DataW.trod at h
    simp only [ht] at h
    split at h
    · cases hm : fs.toList.mapM fun f => DataW.trod enc P w base sp hd fuel f.type ((cs.drop f.offset).take (P.cellsOf f.type)) with
      | none=>rw [hm] at h; cases h
      | some xs =>
        rw [hm] at h
        simp only [Option.map_some] at h
        injection h with h
        obtain ⟨e1,e2⟩:=Uf hm
        obtain ⟨y',hy,hx⟩:=e2 i f hf
        refine ⟨fuel,y',hy,fun x hxm=>?_⟩
        rw [← h]
        unfold DataW.weights
        simp only [ht]
        have go : ∀ (ts : List TypeId) (ds : List (DataW H')) (i : Nat) (t : TypeId) (d : DataW H'),ts[i]? = some t→ds[i]? = some d→x ∈ d.weights P t→x ∈ DataW.weightsEach P ts ds:=by
          intro ts
          induction ts with
          | nil=>intro ds i t d h1 _ _; simp at h1
          | cons t0 ts ih =>
            intro ds i t d h1 h2 h3
            cases ds with
            | nil=>simp at h2
            | cons d0 ds =>
              unfold DataW.weightsEach
              cases i with
              | zero=>injection h1 with h1; injection h2 with h2; subst h1 h2; exact List.mem_append_left _ h3
              | succ i=>exact List.mem_append_right _ (ih ds i t d h1 h2 h3)
        exact go _ _ i f.type y'.1 (by rw [List.getElem?_map,hf]; rfl) (by rw [List.getElem?_map,hx]; rfl) hxm
    · cases h
theorem Xu {sp : Nat→Bool} {t : TypeId} {k : IntKind} {fuel : Nat} {v : Value} {y : DataW H' × List MemPlace} (ht : P.underlying t = some (.int k)) (h : DataW.trod enc P w base sp hd fuel t [v] = some y) : ∃ n,v = .int k n:=by
  cases fuel with
  | zero=>unfold DataW.trod at h; cases h
  | succ fuel =>
    unfold DataW.trod at h
    simp only [ht] at h
    cases v <;> simp only at h <;> first | (cases h; done) | skip
    rename_i k' n
    split at h
    · rename_i hs; exact ⟨n,by rw [hs.1]⟩
    · cases h
theorem trod_bool {sp : Nat→Bool} {t : TypeId} {fuel : Nat} {v : Value} {y : DataW H' × List MemPlace} (ht : P.underlying t = some .bool) (h : DataW.trod enc P w base sp hd fuel t [v] = some y) : ∃ b,v = .bool b:=by
  cases fuel with
  | zero=>unfold DataW.trod at h; cases h
  | succ fuel =>
    unfold DataW.trod at h
    simp only [ht] at h
    cases v <;> simp only at h <;> first | (cases h; done) | skip
    rename_i b; exact ⟨b,rfl⟩
end
theorem QdC {α : Type} {cs : List α} {o n i : Nat} {x : α} (h : cs[o + i]? = some x) (hi : i < n) : (((cs.drop o).take n).drop i).take 1 = [x]:=by
  apply List.ext_getElem?
  intro j
  rw [List.getElem?_take]
  cases j with
  | zero =>
    rw [if_pos Nat.one_pos,List.getElem?_drop,List.getElem?_take,if_pos (by omega),List.getElem?_drop,Nat.add_zero,h]; rfl
  | succ j=>rw [if_neg (by omega)]; rfl
theorem Nv {α : Type} {cs : List α} {i : Nat} {x : α} (h : cs[i]? = some x) : (cs.drop i).take 1 = [x]:=by
  apply List.ext_getElem?
  intro j
  rw [List.getElem?_take]
  cases j with
  | zero=>rw [if_pos Nat.one_pos,List.getElem?_drop,Nat.add_zero,h]; rfl
  | succ j=>rw [if_neg (by omega)]; rfl
end Go.Am
