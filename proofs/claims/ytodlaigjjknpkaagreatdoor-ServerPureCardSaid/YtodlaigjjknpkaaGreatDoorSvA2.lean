import Derived.Test.YtodlaigjjknpkaaGreatDoorAmL7
namespace Go.Am
open Go
set_option linter.all false
structure Lease (h0 h : H) (ρ : Nat→Nat) : Prop where
  full : h0.base = h0.next
  rows : ∀ i,i < h0.next→h0.get i = .dead ∨ ∃ m t cs,h0.get i = .cells true t cs ∧ AV.flatL cs = true ∧ h.get (ρ i) = .cells m t cs
theorem rel_lease {μ : Mu} {h0 h : H} {ρ : Nat → Nat} {w : World} (hR : Rel μ h w) (l : Lease h0 h ρ) : Rel (Wo μ ρ h0.next) h0 w := by
  refine ⟨⟨by rw [l.full]; exact Nat.le_refl _⟩,fun id b d hm=>?_,fun i j b d e hi hj li lj hbj=>?_,fun id b d hm=>?_,fun id b d ccs t fr hm hc=>?_,fun g t cs hg hc=>?_⟩
  · obtain ⟨h1, h2⟩ := Wg hm
    exact ⟨h1,(hR.dom _ b d h2).2⟩
  · obtain ⟨h3, _⟩ := Wg hj
    rw [l.full] at hbj
    exact absurd h3 (Nat.not_lt.2 hbj)
  · obtain ⟨h1, h2⟩ := Wg hm
    rcases l.rows id h1 with q1 | ⟨m,t,cs,q1,q2,q3⟩
    · rw [q1]; trivial
    · have hf : Nat.ble h0.base id = false := by
        cases hb : Nat.ble h0.base id
        · rfl
        · rw [Qv,l.full] at hb; omega
      have h3:=(hR.blk _ b d h2).weak
      rw [q3] at h3
      rw [q1,hf]
      obtain ⟨ccs,fr,r1,r2,_,_⟩:=h3
      exact ⟨ccs,fr,r1,fun i a ha=>let ⟨v,hv,hr⟩:=r2 i a ha; ⟨v,hv,AV.flat_rel a v (Kh q2 ha) hr⟩,fun e=>(by cases e),fun e=>(by cases e)⟩
  · obtain ⟨h1, h2⟩ := Wg hm
    exact hR.cnt _ b d ccs t fr h2 hc
  · rw [l.full] at hg
    rcases l.rows g hg with q1 | ⟨m,t',cs',q1,_,_⟩
    · rw [q1] at hc; cases hc
    · rw [q1] at hc; injection hc with hc; cases hc
theorem XW {μ μ1 : Mu} {h0 h h1 : H} {ρ : Nat→Nat} {w w' : World} {r : AV} {v : Value} (hR : Rel μ h w) (p : Post (Wo μ ρ h0.next) h0 w μ1 h1 w') (hv : r.rel μ1 v) (l : Lease h0 h ρ) (hu : r.flat = true) : r.rel μ v ∧ Post μ h w μ h w':=by
  have hb : ∀ b,b < w.heap.size→w'.heap[b]? = w.heap[b]?:=fun b hlt=>p.frame.block b hlt fun id d h1 h2=>by
    obtain ⟨h3,_⟩:=Wg h2
    rw [l.full] at h1
    exact absurd h3 (Nat.not_lt.2 h1)
  exact ⟨AV.flat_rel r v hu hv,⟨fun _ _=>⟨rfl,rfl⟩,hR.same p.frame.size hb,⟨p.frame.os,p.frame.tape,p.frame.output,p.frame.size,fun b hlt _=>hb b hlt⟩,Grows.refl μ h,fun id b d hi hm=>absurd (hR.dom id b d hm).1 (by omega)⟩⟩
def Less (r r' : AV) : Prop:=∀ (μ : Mu) (v : Value),AV.rel μ r v→AV.rel μ r' v
theorem Less.refl (r : AV) : Less r r:=fun _ _ h=>h
theorem Less.tup (a b : AV) : Less (.tuple [a,b]) (.tuple [.junk,b]):=fun μ v h=>by
  simp only [AV.rel] at h ⊢
  obtain ⟨vs,rfl,h⟩:=h
  refine ⟨vs,rfl,?_⟩
  obtain ⟨x,xs,e,h1,h2⟩:=AV.relL_cons.1 h
  exact AV.relL_cons.2 ⟨x,xs,e,by simp only [AV.rel],h2⟩
noncomputable def leaseF (g : Fun) : Fun:=fun as h k=>∃ (h0 : H) (ρ : Nat→Nat) (as0 : List AV),as = AV.renL ρ as0 ∧ AV.underL h0.next as0 ∧ Lease h0 h ρ ∧ g as0 h0 fun r _=>∃ r',Less r r' ∧ r'.flat = true ∧ k r' h
theorem Qe.lease {P : Program} {f : FuncId} {g : Fun} (hg : Qe P f g) : Qe P f (leaseF g):=by
  intro as h Q ⟨h0,ρ,as0,has,hu,l,e⟩ μ w args hR ha
  subst has
  have hR0:=rel_lease hR l
  have ha0 : AV.relL (Wo μ ρ h0.next) as0 args.toList:=AV.relL_ren as0 _ hu ha
  rcases hg as0 h0 _ e (Wo μ ρ h0.next) w args hR0 ha0 with ⟨v,w',μ1,r,h1,q1,q2,q3,r',q4,q5,q6⟩ | ⟨q1,q2⟩
  · obtain ⟨r1, r2⟩ := XW hR q3 (q4 _ _ q2) l q5
    exact .inl ⟨v,w',μ,r',h,q1,r1,r2,q6⟩
  · refine .inr ⟨q1, Calls.mono q2 fun e w' ⟨v, μ1, r, h1, p1, p2, p3, r', p4, p5, p6⟩ => ?_⟩
    obtain ⟨r1,r2⟩:=XW hR p3 (p4 _ _ p2) l p5
    exact ⟨v,μ,r',h,p1,r1,r2,p6⟩
theorem Lease.none (h : H) (ρ : Nat→Nat) : Lease H0 h ρ:=⟨rfl,fun i hi=>absurd hi (Nat.not_lt_zero _)⟩
def RowAt {α : Type} (f : α→List AV) (es : Nat) (h : H) (v : AV) (l : List α) : Prop :=
  (v = .nils ∧ l = []) ∨ ∃ id c ex m t,v = .slice id 0 l.length c es ex ∧ h.get id = .cells m t (l.flatMap f) ∧ id < h.next
theorem RowAt.nil {α : Type} (f : α→List AV) (es : Nat) (h : H) : RowAt f es h .nils []:=.inl ⟨rfl,rfl⟩
theorem RowAt.keep {α : Type} {f : α→List AV} {es : Nat} {h h' : H} {v : AV} {l : List α} (q : RowAt f es h v l) (hl : h.next ≤ h'.next) (hg : ∀ id,id < h.next→h'.get id = h.get id) : RowAt f es h' v l:=by
  rcases q with q | ⟨id,c,ex,m,t,q1,q2,q3⟩
  · exact .inl q
  · exact .inr ⟨id,c,ex,m,t,q1,(hg id q3).trans q2,Nat.lt_of_lt_of_le q3 hl⟩
theorem RowAt.low {α : Type} {f : α→List AV} {es : Nat} {h h' : H} {v : AV} {l : List α} (q : RowAt f es h v l) {n : Nat} (lo : Low n h h') (hn : h.next ≤ n) : RowAt f es h' v l :=
  q.keep lo.next fun id hi=>lo.get id (by omega)
theorem RowAt.push {α : Type} {f : α→List AV} {es : Nat} {h : H} {v : AV} {l : List α} (q : RowAt f es h v l) (b : Blk) : RowAt f es (Qh h b) v l :=
  q.keep (Nat.le_succ _) fun id hi=>by rw [Ze,if_neg (by omega)]
theorem RowAt.len {α : Type} {f : α→List AV} {es : Nat} {h : H} {v : AV} {l : List α} (q : RowAt f es h v l) (k : Nat→Prop) : Q6 v k = k l.length:=by
  rcases q with ⟨rfl,rfl⟩ | ⟨id,c,ex,m,t,rfl,q2,q3⟩ <;> rfl
theorem YI {α : Type} {f : α→List AV} {es : Nat} (hf : ∀ a,(f a).length = es) : ∀ l : List α,(l.flatMap f).length = l.length * es
  | []=>by simp
  | a :: l=>by rw [List.flatMap_cons,List.length_append,hf,YI hf l,List.length_cons,Nat.add_mul]; omega
theorem JB {α : Type} {f : α→List AV} {es : Nat} (hf : ∀ a,(f a).length = es) : ∀ (l : List α) (i : Nat),(l.flatMap f).drop (i * es) = (l.drop i).flatMap f
  | l,0=>by simp
  | [],i + 1=>by simp
  | a :: l, i + 1 => by
    rw [List.flatMap_cons,show (i + 1) * es = (f a).length + i * es from by rw [hf,Nat.add_mul]; omega,List.drop_length_add_append,JB hf l i]; rfl
theorem flatMap_at {α : Type} {f : α→List AV} {es : Nat} (hf : ∀ a,(f a).length = es) (l : List α) {i : Nat} (hi : i < l.length) : ((l.flatMap f).drop (i * es)).take es = f l[i]:=by
  rw [JB hf,List.drop_eq_getElem_cons hi,List.flatMap_cons,← hf l[i],List.take_left']
  rfl
theorem VG {α : Type} {l : List α} {n : Nat} (h : n ≤ l.length) : Z1 n l = some (l.take n):=by rw [We,if_pos h]
theorem WG {α : Type} (l : List α) (n : Nat) : Yg n l = l.drop n:=WH n l
theorem D1 {id len cap es i : Nat} {ex : Bool} {kk : IntKind} (hi : i < len) (k : AV→Prop) : ixK es (.slice id 0 len cap es ex) (.int kk (Int.ofNat i)) k = k (.ptr id (i * es)):=by
  show ck (Nat.blt i len) (fN (Nat.add 0 (Nat.mul i es)) fun o=>k (.ptr id o)) = _
  rw [(QP _ _).2 hi,Zk]
  have e : Nat.add 0 (Nat.mul i es) = i * es:=by show 0 + i * es = i * es; omega
  rw [e]; rfl
theorem RowAt.ix {α : Type} {f : α→List AV} {es : Nat} (hf : ∀ a,(f a).length = es) {h : H} {v : AV} {l : List α} (q : RowAt f es h v l) {i : Nat} (hi : i < l.length) :
    ∃ id o m t cs,(∀ (kk : IntKind) (k : AV→Prop),ixK es v (.int kk (Int.ofNat i)) k = k (.ptr id o)) ∧ h.get id = .cells m t cs ∧ id < h.next ∧ Z1 es (Yg o cs) = some (f l[i]):=by
  rcases q with ⟨rfl,rfl⟩ | ⟨id,c,ex,m,t,rfl,q2,q3⟩
  · simp at hi
  · refine ⟨id, i * es, m, t, _, fun kk k => D1 hi k, q2, q3, ?_⟩
    rw [WG,VG,flatMap_at hf l hi]
    rw [List.length_drop,YI hf]
    have : (i + 1) * es ≤ l.length * es:=Nat.mul_le_mul_right es hi
    rw [Nat.add_mul] at this; omega
theorem RowAt.rd {α : Type} {f : α→List AV} {es : Nat} (hf : ∀ a,(f a).length = es) {h : H} {v : AV} {l : List α} (q : RowAt f es h v l) {i : Nat} (hi : i < l.length) :
    ∃ p,(∀ (kk : IntKind) (k : AV→Prop),ixK es v (.int kk (Int.ofNat i)) k = k p) ∧ ∀ (h' : H) (k : List AV→Prop),(∀ id,id < h.next→h'.get id = h.get id)→ldN es p h' k = k (f l[i]):=by
  obtain ⟨id,o,m,t,cs,q1,q2,q3,q4⟩:=q.ix hf hi
  exact ⟨.ptr id o,q1,fun h' k hg=>QN ((hg id q3).trans q2) q4 k⟩
def UU (k : List UInt8) : List AV:=[.str (Str.of k)]
abbrev QY (h : H) (v : AV) (ks : List (List UInt8)) : Prop:=RowAt UU 1 h v ks
theorem GR {α : Type} {l : List α} {a : α} (h : Z1 1 l = some [a]) : Zd l 0 = some a:=by
  cases l with
  | nil=>cases h
  | cons b l =>
    have : Z1 1 (b :: l) = some [b]:=by cases l <;> rfl
    rw [this] at h; injection h with h; injection h with h; subst h; rfl
theorem XU {α : Type} (l : List α) (i : Nat) : Zd (l.drop i) 0 = Zd l i:=by rw [YA,YA]; simp
theorem RowAt.rdS {h : H} {v : AV} {ks : List (List UInt8)} (q : QY h v ks) {i : Nat} (hi : i < ks.length) :
    ∃ p,(∀ (kk : IntKind) (k : AV→Prop),ixK 1 v (.int kk (Int.ofNat i)) k = k p) ∧ ∀ (h' : H) (k : Str→Prop),(∀ id,id < h.next→h'.get id = h.get id)→ldS p h' k = k (Str.of ks[i]):=by
  obtain ⟨id,o,m,t,cs,q1,q2,q3,q4⟩:=RowAt.ix (f:=UU) (fun a=>rfl) q hi
  refine ⟨.ptr id o,q1,fun h' k hg=>ZG ((hg id q3).trans q2) ?_ k⟩
  rw [WG] at q4
  rw [← XU]; exact GR q4
def KG (x : Int) : List AV:=[.int .i64 x]
abbrev Vb (h : H) (v : AV) (l : List Int) : Prop:=RowAt KG 1 h v l
theorem RowAt.rdI {h : H} {v : AV} {l : List Int} (q : Vb h v l) {i : Nat} (hi : i < l.length) :
    ∃ p,(∀ (kk : IntKind) (k : AV→Prop),ixK 1 v (.int kk (Int.ofNat i)) k = k p) ∧ ∀ (h' : H) (k : Int→Prop),(∀ id,id < h.next→h'.get id = h.get id)→ldI .i64 p h' k = k l[i]:=by
  obtain ⟨id,o,m,t,cs,q1,q2,q3,q4⟩:=RowAt.ix (f:=KG) (fun a=>rfl) q hi
  refine ⟨.ptr id o,q1,fun h' k hg=>Zy ((hg id q3).trans q2) ?_ k⟩
  rw [WG] at q4
  rw [← XU]; exact GR q4
noncomputable def HX (b0 b1 b2 b3 b4 b5 : Blk) : H:=⟨.nd b0 (.nd b1 (.nd b3 .lf .lf) (.nd b5 .lf .lf)) (.nd b2 (.nd b4 .lf .lf) .lf),6,6⟩
def R6 (i0 i1 i2 i3 i4 i5 : Nat) : Nat→Nat
  | 0=>i0
  | 1=>i1
  | 2=>i2
  | 3=>i3
  | 4=>i4
  | _=>i5
def Lent1 (h : H) (B : Blk) (id : Nat) : Prop:=B = .dead ∨ ∃ m t cs,B = .cells true t cs ∧ AV.flatL cs = true ∧ h.get id = .cells m t cs
theorem Lent1.dead (h : H) : Lent1 h .dead 0:=.inl rfl
theorem Qe1 {h : H} {b0 b1 b2 b3 b4 b5 : Blk} {i0 i1 i2 i3 i4 i5 : Nat} (l0 : Lent1 h b0 i0) (l1 : Lent1 h b1 i1) (l2 : Lent1 h b2 i2) (l3 : Lent1 h b3 i3) (l4 : Lent1 h b4 i4) (l5 : Lent1 h b5 i5) :
    Lease (HX b0 b1 b2 b3 b4 b5) h (R6 i0 i1 i2 i3 i4 i5):=by
  refine ⟨rfl,fun i hi=>?_⟩
  match i,hi with
  | 0,_=>exact l0
  | 1,_=>exact l1
  | 2,_=>exact l2
  | 3,_=>exact l3
  | 4,_=>exact l4
  | 5,_=>exact l5
  | i + 6,hi=>exact absurd (show i + 6 < 6 from hi) (by omega)
theorem Nb {α : Type} {f : α → List AV} (hf : ∀ a, AV.flatL (f a) = true) : ∀ l : List α, AV.flatL (l.flatMap f) = true
  | []=>rfl
  | a :: l => by
    have app : ∀ (x y : List AV),AV.flatL x = true→AV.flatL y = true→AV.flatL (x ++ y) = true:=fun x=>by
      induction x with
      | nil=>intro y _ h; exact h
      | cons c x ih =>
        intro y h1 h2
        simp only [AV.flatL,List.cons_append,Bool.and_eq_true] at h1 ⊢
        exact ⟨h1.1,ih y h1.2 h2⟩
    rw [List.flatMap_cons]
    exact app _ _ (hf a) (Nb hf l)
theorem RowAt.take {α : Type} {f : α→List AV} {es : Nat} {h : H} {v : AV} {l : List α} (q : RowAt f es h v l) (i : Nat) (hf : ∀ a,AV.flatL (f a) = true) :
    ∃ (v0 : AV) (B : Blk) (id : Nat),Lent1 h B id ∧ (∀ ρ : Nat→Nat,ρ i = id→v0.ren ρ = v) ∧ (∀ h0 : H,h0.get i = B→i < h0.next→RowAt f es h0 v0 l) ∧ (∀ n,i < n→v0.under n):=by
  rcases q with ⟨rfl,rfl⟩ | ⟨id,c,ex,m,t,rfl,q2,q3⟩
  · exact ⟨.nils,.dead,0,.inl rfl,fun _ _=>by simp [AV.ren],fun _ _ _=>.inl ⟨rfl,rfl⟩,fun _ _=>by simp [AV.under]⟩
  · exact ⟨.slice i 0 l.length c es ex,.cells true t (l.flatMap f),id,.inr ⟨m,t,_,rfl,Nb hf l,q2⟩,fun ρ e=>by simp [AV.ren,e],fun h0 e1 e2=>.inr ⟨i,c,ex,true,t,rfl,e1,e2⟩,fun n hn=>by simpa [AV.under] using hn⟩
theorem Yx {α : Type} {body : (α→List Dfr→H→Prop)→α→List Dfr→H→Prop} (n : Nat) (I : Nat→α→H→Prop) (hn : n ≤ 4000000000000000000)
    (step : ∀ i x h self,i < n→I i x h→(∀ x' h',I (i + 1) x' h'→self x' [] h')→body self x [] h)
    (last : ∀ x h self,I n x h→body self x [] h) {x : α} {h : H} (h0 : I 0 x h) : J0.lp body x [] h:=by
  refine NA (fun m x d h=>∃ i,i ≤ n ∧ m = n - i ∧ d = [] ∧ I i x h) ?_ (n:=n) (by unfold fuel; omega) ⟨0,Nat.zero_le _,rfl,rfl,h0⟩
  rintro m self x d h ⟨i,hi,rfl,rfl,hI⟩ hs
  rcases Nat.lt_or_ge i n with hlt | hge
  · exact step i x h self hlt hI fun x' h' hI'=>hs (n - (i + 1)) x' [] h' (by omega) ⟨i + 1,hlt,rfl,rfl,hI'⟩
  · obtain rfl : i = n := by omega
    exact last x h self hI
theorem Q0 {a b : Nat} (h : a < b) : ltI (Int.ofNat a) (Int.ofNat b) = true:=WF.2 (by show (a : Int) < (b : Int); omega)
theorem Q5 {a b : Nat} (h : b ≤ a) : ltI (Int.ofNat a) (Int.ofNat b) = false:=Zm.2 (by show (b : Int) ≤ (a : Int); omega)
theorem Zn (i : Nat) (h : i < 9000000000000000000) : Qu .i64 (Int.add (Int.ofNat i) (Int.ofNat 1)) = Int.ofNat (i + 1):=by
  have : Int.add (Int.ofNat i) (Int.ofNat 1) = Int.ofNat (i + 1):=rfl
  rw [this]; exact Vc (kk:=.i64) (by show i + 1 < 9223372036854775808; omega)
theorem JF (i : Nat) (h : i < 9000000000000000000) : Qu .i64 (Int.sub (Int.ofNat (i + 1)) (Int.ofNat 1)) = Int.ofNat i:=by
  have : Int.sub (Int.ofNat (i + 1)) (Int.ofNat 1) = Int.ofNat i:=by
    show ((i + 1 : Nat) : Int) - ((1 : Nat) : Int) = (i : Int); omega
  rw [this]; exact Vc (kk:=.i64) (by show i < 9223372036854775808; omega)
theorem QC {c : Bool} {A B : Prop} (h1 : c = true→A) (h0 : c = false→B) : (Bool.rec (motive:=fun _=>Prop) B A c):=by
  cases c
  · exact h0 rfl
  · exact h1 rfl
theorem Dj (l : List UInt8) : Str.beq (Str.of l) ⟨0,0⟩ = decide (l = []):=by
  have h : Str.beq (Str.of l) (Str.of []) = (l == []):=Str.beq_of l []
  have h2 : Str.beq (Str.of l) ⟨0,0⟩ = (l == []):=h
  rw [h2]; cases l <;> rfl
end Go.Am
namespace Go.Am
open Go
set_option linter.all false
def Grow {α : Type} (f : α→List AV) (e es n : Nat) (h : H) (v : AV) (l : List α) : Prop :=
  (v = .nils ∧ l = []) ∨ ∃ id m,v = .slice id 0 l.length l.length es false ∧ n ≤ id ∧ id < h.next ∧ h.get id = .cells m e (l.flatMap f)
theorem Grow.nil {α : Type} (f : α→List AV) (e es n : Nat) (h : H) : Grow f e es n h .nils []:=.inl ⟨rfl,rfl⟩
theorem Grow.row {α : Type} {f : α→List AV} {e es n : Nat} {h : H} {v : AV} {l : List α} (g : Grow f e es n h v l) : RowAt f es h v l:=by
  rcases g with g | ⟨id,m,g1,_,g3,g4⟩
  · exact .inl g
  · exact .inr ⟨id,_,false,m,e,g1,g4,g3⟩
theorem Grow.keep {α : Type} {f : α→List AV} {e es n : Nat} {h h' : H} {v : AV} {l : List α} (g : Grow f e es n h v l) {n' : Nat} (lo : Low n' h h') (hn : h.next ≤ n') : Grow f e es n h' v l:=by
  rcases g with g | ⟨id,m,g1,g2,g3,g4⟩
  · exact .inl g
  · exact .inr ⟨id,m,g1,g2,Nat.lt_of_lt_of_le g3 lo.next,(lo.get id (by omega)).trans g4⟩
theorem DU : ∀ (x y : List AV) (k : List AV→Prop),DW x y k = k (x ++ y)
  | [],y,k=>rfl
  | a :: x, y, k => by
    show DW x y (fun r=>k (a :: r)) = _
    rw [DU x y]; rfl
theorem VT {α : Type} {f : α→List AV} {e es bytes n : Nat} {h : H} {v : AV} {l : List α} {a : α} {j c tj : Nat} {mj ex : Bool} {k : AV→H→Prop} (g : Grow f e es n h v l) (hf : ∀ a,(f a).length = es) (h1 : ∀ a,ZN (f a) = true)
    (hj : h.get j = .cells mj tj (f a)) (hb : h.base ≤ n) (hn : n ≤ h.next) (hl : (l.length + 1) * bytes ≤ QR)
    (hk : ∀ v' h',Grow f e es n h' v' (l ++ [a])→Low n h h'→k v' h') : apC e es bytes v (.slice j 0 1 c es ex) h k:=by
  unfold apC Qdg
  simp only [Yl,hj,YL]
  have e1 : Z1 (Nat.mul 1 es) (Yg 0 (f a)) = some (f a):=by
    rw [WG,List.drop_zero,show Nat.mul 1 es = es from Nat.one_mul es,VG (by rw [hf]; exact Nat.le_refl _),List.take_of_length_le (by rw [hf]; exact Nat.le_refl _)]
  rw [e1,Z0]
  rcases g with ⟨rfl,rfl⟩ | ⟨id,m,rfl,g2,g3,g4⟩
  · simp only [UN]
    rw [show Nat.beq 1 0 = false from rfl,Wi]
    refine Q7 ((Qv _ _).2 ?_) ?_
    · simpa using hl
    · rw [Qw]
      refine hk _ _ (.inr ⟨h.next,false,rfl,hn,Nat.lt_succ_self _,?_⟩) (Low.push _ _ _ hn)
      rw [Ze,if_pos rfl]; simp
  · simp only [Yl, g4, YL, Zk]
    rw [show Nat.add l.length 1 = l.length + 1 from rfl]
    have e2 : Nat.ble (l.length + 1) l.length = false:=by
      cases q : Nat.ble (l.length + 1) l.length
      · rfl
      · rw [Qv] at q; omega
    rw [e2,Wi]
    have hlen:=YI hf l
    have e3 : Z1 (Nat.mul l.length es) (Yg 0 (l.flatMap f)) = some (l.flatMap f):=by
      rw [WG,List.drop_zero,VG (by rw [hlen]; exact Nat.le_refl _),List.take_of_length_le (by rw [hlen]; exact Nat.le_refl _)]
    refine Q7 ((Qv _ _).2 hl) ?_
    rw [e3,Z0,DU,Wi]
    refine Q7 ((Nat.beq_eq ▸ rfl : Nat.beq es es = true)) (Q7 ((Nat.beq_eq ▸ rfl : Nat.beq e e = true)) (Q7 (h1 a) ?_))
    rw [K3 _ g3 (by omega),Qw]
    have lo : Low n h (Qh (QL h id .dead) (.cells true e (l.flatMap f ++ f a))):=(Low.put .dead g3 g2).trans (Low.push _ _ _ (by rw [Kz]; exact hn))
    refine hk _ _ (.inr ⟨h.next,true,?_,hn,Nat.lt_succ_self _,?_⟩) lo
    · rw [List.length_append]; rfl
    · rw [Ze,Kz,if_pos rfl]; simp
theorem Xy (a b : Blk) : ∀ (f k : Nat),k ≤ f→Tr.set (Tr.sing a f k) k b = Tr.sing b f k
  | 0,0,_=>rfl
  | f + 1,0,_=>rfl
  | 0,k + 1,h=>by omega
  | f + 1, k + 1, h => by
    rw [Tr.sing_succ,Tr.sing_succ]
    by_cases e : k % 2 = 0
    · rw [if_pos e,if_pos e,Tr.set_nd_succ,if_pos e,Xy a b f (k / 2) (by omega)]
    · rw [if_neg e,if_neg e,Tr.set_nd_succ,if_neg e,Xy a b f (k / 2) (by omega)]
theorem Nq (a b : Blk) : ∀ (t : Tr) (k : Nat),Tr.set (Tr.set t k a) k b = Tr.set t k b
  | .lf,k=>Xy a b k k (Nat.le_refl k)
  | .nd v l r,0=>rfl
  | .nd v l r, k + 1 => by
    rw [Tr.set_nd_succ,Tr.set_nd_succ]
    by_cases e : k % 2 = 0
    · rw [if_pos e,if_pos e,Tr.set_nd_succ,if_pos e,Nq a b l (k / 2)]
    · rw [if_neg e,if_neg e,Tr.set_nd_succ,if_neg e,Nq a b r (k / 2)]
theorem put_push (h : H) (b c : Blk) : QL (Qh h b) h.next c = Qh h c:=by
  show (⟨Tr.set (Tr.set h.mem h.next b) h.next c,Nat.succ h.next,h.base⟩ : H) = ⟨Tr.set h.mem h.next c,Nat.succ h.next,h.base⟩
  rw [Nq]
theorem QO (h : H) (b : Blk) : (Qh h b).get h.next = b:=by rw [Ze,if_pos rfl]
theorem YE {h : H} {id : Nat} (b : Blk) (hi : id < h.next) : (Qh h b).get id = h.get id:=by rw [Ze,if_neg (by omega)]
theorem Jm {h : H} {o n : Nat} {m : Bool} {t : Nat} {cs cs' xs : List AV} (h0 : xs.length = n) (h1 : ZN xs = true) (e : Qy o xs cs = some cs') (hb : h.base ≤ h.next) (k : H→Prop) :
    stN n (.ptr h.next o) xs (Qh h (.cells m t cs)) k = k (Qh h (.cells m t cs')):=by
  rw [QdD (QO h _) h0 h1 e (Nat.lt_succ_self _) hb,put_push]
theorem Ux {h : H} {m : Bool} {t : Nat} {a b x y : AV} (h1 : ZN [x,y] = true) (hb : h.base ≤ h.next) (k : H→Prop) : stN 2 (.ptr h.next 0) [x,y] (Qh h (.cells m t [a,b])) k = k (Qh h (.cells m t [x,y])) :=
  Jm (n:=2) rfl h1 rfl hb k
theorem VJ {h : H} {m : Bool} {t : Nat} {x y : AV} (k : List AV→Prop) : ldN 2 (.ptr h.next 0) (Qh h (.cells m t [x,y])) k = k [x,y]:=QN (QO h _) rfl k
theorem Qbd {h : H} {m : Bool} {t : Nat} {a b c x y z : AV} (h1 : ZN [x,y,z] = true) (hb : h.base ≤ h.next) (k : H→Prop) : stN 3 (.ptr h.next 0) [x,y,z] (Qh h (.cells m t [a,b,c])) k = k (Qh h (.cells m t [x,y,z])) :=
  Jm (n:=3) rfl h1 rfl hb k
theorem Qb1 {a b x y : AV} : Qy 0 [x,y] [a,b] = some [x,y]:=rfl
theorem Qb4 {h : H} {o n : Nat} {m : Bool} {t : Nat} {cs l : List AV} (e : Z1 n (Yg o cs) = some l) (k : List AV→Prop) : ldN n (.ptr h.next o) (Qh h (.cells m t cs)) k = k l:=QN (QO h _) e k
end Go.Am
