import Derived.Test.YtodlaigjjknpkaaGreatDoorSvI
noncomputable section
namespace Go.Proofs.YtodlaigjjknpkaaGreatDoor
open Go Go.Am
set_option linter.all false
set_option maxRecDepth 100000
structure Ask where
  id : Int
  from_ : Int
  nw : Int
  nl : Int
  nt : Int
  kind : Int
  n : Int
  m : Int
  bw : Int
  bl : Int
  bt : Int
  mw : Int
  ml : Int
  mt : Int
  anchor : List UInt8
  fr : List UInt8
  to : List UInt8
  w : Int
  l : Int
  t : Int
  lw : Int
  ll : Int
  lt : Int
  tw : Int
  tl : Int
  tt : Int
  vk : AV
  vw : AV
  reads : Bool
  whole : Bool
  rn : Int
  rm : Int
  rst : Int
  rw : Int
  rl : Int
  rt : Int
  vr : AV
  beat : Int
  pw : Int
  pl : Int
  pt : Int
  vn : AV
  keys : List (List UInt8)
  wrs : List (List UInt8 × List UInt8 × Bool)
  rkeys : List (List UInt8)
  known : List (Int × Int)
def J4 (n m st w l t : Int) (v : AV) (beat pw pl pt : Int) : List AV:=[.int .i32 n,.int .i32 m,.int .u8 st,.int .i64 w,.int .i32 l,.int .i32 t,v,.int .i64 beat,.int .i64 pw,.int .i32 pl,.int .i32 pt]
def Qx (X : Ask) : List AV:=[.int .i64 X.id,.int .i64 X.from_,.int .i64 X.nw,.int .i32 X.nl,.int .i32 X.nt,.int .i64 X.kind,.int .i32 X.n,.int .i32 X.m,.int .i64 X.bw,.int .i32 X.bl,.int .i32 X.bt,
  .int .i64 X.mw,.int .i32 X.ml,.int .i32 X.mt,.str (Str.of X.anchor),.str (Str.of X.fr),.str (Str.of X.to),.int .i64 X.w,.int .i32 X.l,.int .i32 X.t,.int .i64 X.lw,.int .i32 X.ll,.int .i32 X.lt,.int .i64 X.tw,.int .i32 X.tl,.int .i32 X.tt,
  X.vk,X.vw,.bool X.reads,.bool X.whole,.int .i32 X.rn,.int .i32 X.rm,.int .u8 X.rst,.int .i64 X.rw,.int .i32 X.rl,.int .i32 X.rt,X.vr,.int .i64 X.beat,.int .i64 X.pw,.int .i32 X.pl,.int .i32 X.pt,X.vn]
def wrc (w : List UInt8 × List UInt8 × Bool) : List AV:=[.str (Str.of w.1),.str (Str.of w.2.1),.bool w.2.2]
def itc (X : Ask) (w : List UInt8 × List UInt8 × Bool) : List AV:=[.str (Str.of w.1),.int .i32 X.n,.int .i32 X.m,.int .i64 X.bw,.int .i32 X.bl,.int .i32 X.bt,.str (Str.of X.anchor),.int .i64 X.w,.int .i32 X.l,.int .i32 X.t,.str (Str.of w.2.1),.bool w.2.2]
structure AskIn (h : H) (X : Ask) : Prop where
  keys : QY h X.vk X.keys
  wrs : RowAt wrc 3 h X.vw X.wrs
  rkeys : QY h X.vr X.rkeys
  known : RowAt No 2 h X.vn X.known
  l0 : X.keys.length ≤ 70
  l1 : X.wrs.length ≤ 70
  l2 : X.rkeys.length ≤ 70
  l3 : X.known.length ≤ 70
  kc : ∀ id o n c es ex,X.vk = .slice id o n c es ex→n ≤ c
theorem AskIn.low {h h' : H} {X : Ask} (c : AskIn h X) {n : Nat} (lo : Low n h h') (hn : h.next ≤ n) : AskIn h' X:=⟨c.keys.low lo hn,c.wrs.low lo hn,c.rkeys.low lo hn,c.known.low lo hn,c.l0,c.l1,c.l2,c.l3,c.kc⟩
def itB (X : Ask) (w : List UInt8 × List UInt8 × Bool) : Bool:=okI (Str.of w.1) X.n X.m X.bw X.bl X.bt (Str.of X.anchor) X.w X.l X.t (Str.of w.2.1) w.2.2
section
variable {a b c c0 c1 c2 c3 c4 c5 c6 c7 c8 c9 c10 c11 d0 d1 d2 d3 d4 d5 d6 d7 d8 d9 d10 d11 : AV} {p : Prop}
theorem lp1 : Qy 1 [a,b] [c0,c1,c2,c3,c4,c5,c6,c7,c8,c9,c10,c11] = some [c0,a,b,c3,c4,c5,c6,c7,c8,c9,c10,c11]:=rfl
theorem lp3 : Qy 3 [a,b,c] [c0,c1,c2,c3,c4,c5,c6,c7,c8,c9,c10,c11] = some [c0,c1,c2,a,b,c,c6,c7,c8,c9,c10,c11]:=rfl
theorem lp6 : Qy 6 [a] [c0,c1,c2,c3,c4,c5,c6,c7,c8,c9,c10,c11] = some [c0,c1,c2,c3,c4,c5,a,c7,c8,c9,c10,c11]:=rfl
theorem lp7 : Qy 7 [a,b,c] [c0,c1,c2,c3,c4,c5,c6,c7,c8,c9,c10,c11] = some [c0,c1,c2,c3,c4,c5,c6,a,b,c,c10,c11]:=rfl
theorem lp10 : Qy 10 [a] [c0,c1,c2,c3,c4,c5,c6,c7,c8,c9,c10,c11] = some [c0,c1,c2,c3,c4,c5,c6,c7,c8,c9,a,c11]:=rfl
theorem lp11 : Qy 11 [a] [c0,c1,c2,c3,c4,c5,c6,c7,c8,c9,c10,c11] = some [c0,c1,c2,c3,c4,c5,c6,c7,c8,c9,c10,a]:=rfl
theorem lp0 : Qy 0 [d0,d1,d2,d3,d4,d5,d6,d7,d8,d9,d10,d11] [c0,c1,c2,c3,c4,c5,c6,c7,c8,c9,c10,c11] = some [d0,d1,d2,d3,d4,d5,d6,d7,d8,d9,d10,d11]:=rfl
theorem ck2 : ck (Nat.beq (List.length [a,b]) 2) p = p:=rfl
theorem ck3 : ck (Nat.beq (List.length [a,b,c]) 3) p = p:=rfl
theorem ck12 : ck (Nat.beq (List.length [d0,d1,d2,d3,d4,d5,d6,d7,d8,d9,d10,d11]) 12) p = p:=rfl
end
def adjK {β : Type} (key : β→List UInt8) (l : List β) : Prop:=∀ (i j : Nat) (h : i < l.length) (e : i = j + 1),kLt (key l[j]) (key l[i]) = true
open Classical in
def G7 {β : Type} (P : β→Bool) (key : β→List UInt8) (l : List β) : Bool:=l.all P && @decide (adjK key l) (Classical.propDecidable _)
theorem Ke {β : Type} {P : β→Bool} {key : β→List UInt8} {l : List β} : G7 P key l = true ↔ (∀ (i : Nat) (h : i < l.length),P l[i] = true) ∧ adjK key l:=by
  unfold G7
  rw [Bool.and_eq_true,@decide_eq_true_eq _ (Classical.propDecidable _)]
  exact ⟨fun h=>⟨fun i hi=>List.all_eq_true.1 h.1 _ (List.getElem_mem hi),h.2⟩,fun h=>⟨JK h.1,h.2⟩⟩
theorem D4 {α β : Type} {body : (α → List Dfr → H → Prop) → α → List Dfr → H → Prop} {l : List β} (P : β → Bool) (key : β → List UInt8) (I : Nat → α → H → Prop) {x0 : α} {h0 : H} (hn : l.length ≤ 1000000)
    (hb : ∀ i (hi : i < l.length) x h self,I i x h→(∀ j (e : i = j + 1),P l[i] = true→kLt (key l[j]) (key l[i]) = true→∀ x' h',I (i + 1) x' h'→self x' [] h')→(i = 0→P l[i] = true→∀ x' h',I (i + 1) x' h'→self x' [] h') →
      (P l[i] = false→G7 P key l = false)→(∀ j (e : i = j + 1),kLt (key l[j]) (key l[i]) = false→G7 P key l = false)→body self x [] h)
    (hl : ∀ x h self,I l.length x h→G7 P key l = true→body self x [] h) (hI : I 0 x0 h0) : J0.lp body x0 [] h0:=by
  refine Yx l.length (fun i x h'=>I i x h' ∧ ∀ (i' : Nat) (hi' : i' < l.length),i' < i→P l[i'] = true ∧ ∀ (j : Nat) (e : i' = j + 1),kLt (key l[j]) (key l[i']) = true) (by omega) ?_ ?_ ⟨hI,fun i' _ h=>absurd h (Nat.not_lt_zero _)⟩
  · rintro i x h' self hi ⟨hx, hp⟩ hs
    refine hb i hi x h' self hx (fun j e h1 h2 x' h'' hx'=>hs _ _ ⟨hx',fun i' hi' hlt=>?_⟩) (fun e h1 x' h'' hx'=>hs _ _ ⟨hx',fun i' hi' hlt=>?_⟩) (fun h1=>Yj fun g=>?_) (fun j e h1=>Yj fun g=>?_)
    · by_cases h3 : i' < i
      · exact hp i' hi' h3
      · obtain rfl : i' = i := by omega
        exact ⟨h1, fun j' e' => by obtain rfl : j = j' := by omega
                                   exact h2⟩
    · obtain rfl : i' = i := by omega
      exact ⟨h1,fun j' e'=>by omega⟩
    · rw [(Ke.1 g).1 i hi] at h1; cases h1
    · rw [(Ke.1 g).2 i j hi e] at h1; cases h1
  · rintro x h' self ⟨hx, hp⟩
    exact hl x h' self hx (Ke.2 ⟨fun i' hi'=>(hp i' hi' hi').1,fun i' j hi' e=>(hp i' hi' hi').2 j e⟩)
section
variable {KA : AV→H→Prop} {KB : Bool→H→Prop} {h : H}
theorem t97 {X : Ask} {wr : List UInt8 × List UInt8 × Bool} {w l t : Int} (hw : h.base ≤ h.next) (hk : ∀ h',Low h.next h h'→KA (Qdt (Str.of wr.1) X.n X.m X.bw X.bl X.bt (Str.of X.anchor) w l t (Str.of wr.2.1) wr.2.2) h') :
    QdF J0 (.agg (Qx X)) (.agg (wrc wr)) (VA w l t) h KA:=by
  unfold QdF
  rw [QJ,Qw,QJ,Qw,VA,QJ,Qw,Qw]
  have lo : Low h.next h (Qh (Qh (Qh h (.cells false 40 (Qx X))) (.cells false 65 (wrc wr))) (.cells false 29 [.int .i64 w,.int .i32 l,.int .i32 t])):=((Low.push _ _ _ (Nat.le_refl _)).trans (Low.push _ _ _ (Nat.le_succ _))).trans (Low.push _ _ _ (Nat.le_trans (Nat.le_succ _) (Nat.le_succ _)))
  have g1 : (Qh (Qh (Qh h (.cells false 40 (Qx X))) (.cells false 65 (wrc wr))) (.cells false 29 [.int .i64 w,.int .i32 l,.int .i32 t])).get h.next = .cells false 40 (Qx X):=by
    rw [YE _ (by rw [QU,QU]; omega),YE _ (by rw [QU]; omega),QO]
  have g2 : (Qh (Qh (Qh h (.cells false 40 (Qx X))) (.cells false 65 (wrc wr))) (.cells false 29 [.int .i64 w,.int .i32 l,.int .i32 t])).get (Qh h (.cells false 40 (Qx X))).next = .cells false 65 (wrc wr):=by
    rw [YE _ (Nat.lt_succ_self _),QO]
  have g3:=QO (Qh (Qh h (.cells false 40 (Qx X))) (.cells false 65 (wrc wr))) (.cells false 29 [.int .i64 w,.int .i32 l,.int .i32 t])
  have n1 : h.next + 3 = (Qh (Qh (Qh h (.cells false 40 (Qx X))) (.cells false 65 (wrc wr))) (.cells false 29 [.int .i64 w,.int .i32 l,.int .i32 t])).next:=rfl
  have n2 : (Qh h (.cells false 40 (Qx X))).next = h.next + 1:=rfl
  have n3 : (Qh (Qh h (.cells false 40 (Qx X))) (.cells false 65 (wrc wr))).next = h.next + 2:=rfl
  rw [n2] at g2 ⊢
  rw [n3] at g3 ⊢
  generalize Qh (Qh (Qh h (.cells false 40 (Qx X))) (.cells false 65 (wrc wr))) (.cells false 29 [.int .i64 w,.int .i32 l,.int .i32 t]) = h1 at lo g1 g2 g3 n1 ⊢
  have b1:=lo.base
  have z : ∀ (id : Nat) (b : Blk),id < h1.next→(Qh h1 b).get id = h1.get id:=fun id b hi=>YE b hi
  rw [ZG ((z _ _ (by omega)).trans g2) rfl,QN (l:=[.int .i32 X.n,.int .i32 X.m]) ((z _ _ (by omega)).trans g1) rfl,QN (l:=[.int .i64 X.bw,.int .i32 X.bl,.int .i32 X.bt]) ((z _ _ (by omega)).trans g1) rfl,
    ZG (x:=Str.of X.anchor) ((z _ _ (by omega)).trans g1) rfl,QN (l:=[.int .i64 w,.int .i32 l,.int .i32 t]) ((z _ _ (by omega)).trans g3) rfl,ZG ((z _ _ (by omega)).trans g2) rfl,Qe2 ((z _ _ (by omega)).trans g2) rfl]
  simp only [ck2,ck3,lp1,lp3,lp6,lp7,lp10,lp11,Z0]
  rw [Jm (n:=12) rfl rfl lp0 (by omega),Qb4 (l:=itc { X with w:=w,l:=l,t:=t } wr) rfl]
  exact hk _ (lo.trans (.push _ _ _ (by omega)))
theorem t82 {X : Ask} (c : AskIn h X) (hw : h.base ≤ h.next) (hk : ∀ v' h',Grow (itc X) 143 12 h.next h' v' X.wrs→Low h.next h h'→KA v' h') : QdR J0 (.agg (Qx X)) h KA:=by
  unfold QdR
  rw [QJ,Qw,QS (v:=X.vw) (QO h _) rfl]
  have q1 : RowAt wrc 3 (Qh h (.cells false 40 (Qx X))) X.vw X.wrs:=c.wrs.push _
  have g1:=QO h (.cells false 40 (Qx X))
  have n0 : (Qh h (.cells false 40 (Qx X))).next = h.next + 1:=rfl
  have lo0 : Low h.next h (Qh h (.cells false 40 (Qx X))):=.push _ _ _ (Nat.le_refl _)
  generalize Qh h (.cells false 40 (Qx X)) = h1 at q1 g1 n0 lo0 ⊢
  have hl:=c.l1
  (simp only [↓zA,Qk,Qn,zB,q1.len])
  refine Yx X.wrs.length (fun i x h'=>∃ out,x = (AV.ptr h.next 0,out,X.vw,AV.int .i64 (Int.ofNat X.wrs.length),AV.int .i64 (Int.ofNat i),()) ∧ Low h1.next h1 h' ∧ Grow (itc X) 143 12 h1.next h' out (X.wrs.take i)) (by omega) ?_ ?_ ⟨_,rfl,.refl _ _,by rw [List.take_zero]; exact .nil _ _ _ _ _⟩
  · rintro i x h' self hi ⟨out, rfl, lo, g⟩ hs
    have n1:=lo.next
    have b1:=lo.base
    have b0:=lo0.base
    obtain ⟨p,p1,p2⟩:=RowAt.rd (f:=wrc) (fun _=>rfl) q1 hi
    (simp only [↓zA,Qk,Qn,zB,Q0 hi,p1,p2 h' _ (fun id hid=>lo.get id hid)])
    rw [Qw,wrc,Qbd rfl (by omega)]
    have lo2 : Low h1.next h1 (Qh h' (.cells false 65 [.str (Str.of X.wrs[i].1),.str (Str.of X.wrs[i].2.1),.bool X.wrs[i].2.2])):=lo.trans (.push _ _ _ n1)
    have g2 : Grow (itc X) 143 12 h1.next (Qh h' (.cells false 65 [.str (Str.of X.wrs[i].1),.str (Str.of X.wrs[i].2.1),.bool X.wrs[i].2.2])) out (X.wrs.take i):=g.keep (.push h'.next _ _ (Nat.le_refl _)) (Nat.le_refl _)
    have gw:=QO h' (.cells false 65 [.str (Str.of X.wrs[i].1),.str (Str.of X.wrs[i].2.1),.bool X.wrs[i].2.2])
    generalize Qh h' (.cells false 65 [.str (Str.of X.wrs[i].1),.str (Str.of X.wrs[i].2.1),.bool X.wrs[i].2.2]) = h2 at lo2 g2 gw ⊢
    have n2:=lo2.next
    have b2:=lo2.base
    have ga : h2.get h.next = .cells false 40 (Qx X):=(lo2.get _ (by omega)).trans g1
    simp only [QW]
    rw [ZG gw rfl,QN (l:=[.int .i32 X.n,.int .i32 X.m]) ga rfl,QN (l:=[.int .i64 X.bw,.int .i32 X.bl,.int .i32 X.bt]) ga rfl,ZG (x:=Str.of X.anchor) ga rfl,
      QN (l:=[.int .i64 X.w,.int .i32 X.l,.int .i32 X.t]) ga rfl,ZG gw rfl,Qe2 gw rfl]
    simp only [ck2,ck3,ck12,lp0,lp1,lp3,lp6,lp7,lp10,lp11,Z0,Qw]
    refine VT (f:=itc X) (a:=X.wrs[i]) (g2.keep (.push h2.next _ _ (Nat.le_refl _)) (Nat.le_refl _)) (fun _=>rfl) (fun _=>rfl) (QO h2 _) (by rw [Q4]; omega) (by rw [QU]; omega) (by rw [List.length_take]; unfold QR; omega) fun v4 h4 g4 lo4=>?_
    rw [Zn i (by omega)]
    refine hs _ _ ⟨v4,rfl,(lo2.trans (.push _ _ _ n2)).trans lo4,?_⟩
    rw [List.take_succ,List.getElem?_eq_getElem hi]; exact g4
  · rintro x h' self ⟨out, rfl, lo, g⟩
    (simp only [↓zA,Qk,Qn,zB,Q5 (Nat.le_refl X.wrs.length)])
    rw [List.take_length] at g
    refine hk _ _ ?_ (lo0.trans (lo.down (by omega)))
    rcases g with g | ⟨id,m,e1,e2,e3,e4⟩
    · exact .inl g
    · exact .inr ⟨id,m,e1,by omega,e3,e4⟩
end
end Go.Proofs.YtodlaigjjknpkaaGreatDoor
namespace Go.Am
open Go
theorem lgetO_part {α : Type} {cs l : List α} {n o off : Nat} (h : Z1 n (Yg o cs) = some l) (ho : off < n) : Zd cs (Nat.add o off) = Zd l off:=by
  rw [WG,We] at h
  split at h
  · injection h with h; subst h
    rw [YA,YA,List.getElem?_take,if_pos ho,List.getElem?_drop]; rfl
  · cases h
theorem RowAt.rdF {α : Type} {f : α→List AV} {es : Nat} (hf : ∀ a,(f a).length = es) {h : H} {v : AV} {l : List α} (q : RowAt f es h v l) {i : Nat} (hi : i < l.length) :
    ∃ id o, (∀ (kk : IntKind) (k : AV → Prop), ixK es v (.int kk (Int.ofNat i)) k = k (.ptr id o)) ∧ (∀ (h' : H) (k : List AV → Prop), (∀ id, id < h.next → h'.get id = h.get id) → ldN es (.ptr id o) h' k = k (f l[i])) ∧
      ∀ (h' : H) (off : Nat) (s : Str) (k : Str→Prop),(∀ id,id < h.next→h'.get id = h.get id)→off < es→Zd (f l[i]) off = some (.str s)→ldS (.ptr id (Nat.add o off)) h' k = k s:=by
  obtain ⟨id,o,m,t,cs,q1,q2,q3,q4⟩:=q.ix hf hi
  exact ⟨id,o,q1,fun h' k hg=>QN ((hg id q3).trans q2) q4 k,fun h' off s k hg ho e=>ZG ((hg id q3).trans q2) ((lgetO_part q4 ho).trans e) k⟩
end Go.Am
namespace Go.Proofs.YtodlaigjjknpkaaGreatDoor
open Go Go.Am
set_option linter.all false
set_option maxRecDepth 100000
def f82 : AV→H→(AV→H→Prop)→Prop:=QdR J0
def f97 : AV→AV→AV→H→(AV→H→Prop)→Prop:=QdF J0
def Qay (X : Ask) : Bool:=G7 (itB X) (fun w=>w.1) X.wrs && (!(ltI (Int.ofNat X.wrs.length) (Int.ofNat 1)) && !(ltI (Int.ofNat 24) (Int.ofNat X.wrs.length)))
section
variable {KB : Bool→H→Prop} {h : H}
theorem t44 {X : Ask} (c : AskIn h X) (hw : h.base ≤ h.next) (hk : ∀ h', KB (Qay X) h') : s44G J0 f82 QaC (.agg (Qx X)) h KB := by
  unfold s44G
  rw [QJ,Qw,QN (l:=Qx X) (QO h _) rfl]
  have hl:=c.l1
  refine t82 (c.low (.push h.next _ _ (Nat.le_refl _)) (Nat.le_refl _)) (by rw [Q4,QU]; omega) fun v' h' g lo=>?_
  have hw' : h'.base ≤ h'.next:=by have:=lo.next; have:=lo.base; rw [Q4] at this; rw [QU] at *; omega
  have gr:=g.row
  rw [gr.len]
  unfold Qay at hk
  refine D4 (itB X) (fun w=>w.1) (l:=X.wrs) (fun i x h''=>x = (v',v',AV.int .i64 (Int.ofNat X.wrs.length),AV.int .i64 (Int.ofNat i),()) ∧ Low h'.next h' h'') (by omega) ?_ ?_ ⟨rfl,.refl _ _⟩
  · rintro i hi x h1 self ⟨rfl, lo1⟩ s1 s2 s3 s4
    have n1:=lo1.next
    have b1:=lo1.base
    obtain ⟨id,o,p1,p2,p3⟩:=RowAt.rdF (f:=itc X) (fun _=>rfl) gr hi
    simp only [QQ,Qk,Qn,Q0 hi,WR,p1,p2 h1 _ (fun id hid=>lo1.get id hid),Qw]
    rw [itc,Jm (n:=12) rfl rfl lp0 (by omega),Qb4 (l:=itc X X.wrs[i]) rfl]
    have lo2 : Low h'.next h' (Qh h1 (.cells false 143 (itc X X.wrs[i]))):=lo1.trans (.push _ _ _ n1)
    have gn:=QO h1 (.cells false 143 (itc X X.wrs[i]))
    show QaC (.agg (itc X X.wrs[i])) (Qh h1 (.cells false 143 (itc X X.wrs[i]))) _
    generalize Qh h1 (.cells false 143 (itc X X.wrs[i])) = h2 at lo2 gn ⊢
    refine ⟨_,_,_,_,_,_,_,_,_,_,_,_,rfl,?_⟩
    have keep2 : ∀ id,id < h'.next→h2.get id = h'.get id:=fun id hid=>lo2.get id hid
    cases hP : itB X X.wrs[i]
    · have e : okI (Str.of X.wrs[i].1) X.n X.m X.bw X.bl X.bt (Str.of X.anchor) X.w X.l X.t (Str.of X.wrs[i].2.1) X.wrs[i].2.2 = false := hP
      (simp only [↓zA,Qk,Qn,zB,QA,e])
      have hk:=hk h2
      rw [s3 hP] at hk; exact hk
    · have e : okI (Str.of X.wrs[i].1) X.n X.m X.bw X.bl X.bt (Str.of X.anchor) X.w X.l X.t (Str.of X.wrs[i].2.1) X.wrs[i].2.2 = true := hP
      cases i with
      | zero =>
        (simp only [↓zA,Qk,Qn,zB,QA,e,Q5 (Nat.le_refl 0)])
        rw [Zn 0 (by omega)]
        exact s2 rfl hP _ _ ⟨rfl,lo2⟩
      | succ j =>
        obtain ⟨id',o',p1',p2',p3'⟩:=RowAt.rdF (f:=itc X) (fun _=>rfl) gr (i:=j) (by omega)
        (simp only [↓zA,Qk,Qn,zB,QA,e,Q0 (Nat.zero_lt_succ j),JF j (by omega),p1',QW,p3' h2 0 (Str.of X.wrs[j].1) _ keep2 (by decide) rfl,ZG (o:=0) (x:=Str.of X.wrs[j + 1].1) gn rfl])
        cases h3 : Str.lt (Str.of X.wrs[j].1) (Str.of X.wrs[j + 1].1)
        · (simp only [↓zA, Qk, Qn, zB])
          have hk:=hk h2
          rw [s4 j rfl h3] at hk; exact hk
        · (simp only [↓zA, Qk, Qn, zB])
          rw [Zn (j + 1) (by omega)]
          exact s1 j rfl hP h3 _ _ ⟨rfl,lo2⟩
  · rintro x h1 self ⟨rfl, lo1⟩ hg
    have hk:=hk h1
    rw [hg] at hk
    simp only [QQ,Qk,Qn,Q5 (Nat.le_refl X.wrs.length),Wi,gr.len]
    cases h1 : ltI (Int.ofNat X.wrs.length) (Int.ofNat 1)
    · rw [h1] at hk
      (simp only [↓zA,Qk,Qn,zB,gr.len])
      exact hk
    · rw [h1] at hk
      (simp only [↓zA,Qk,Qn,zB,gr.len])
      exact hk
theorem t61 {X : Ask} (c : AskIn h X) (hw : h.base ≤ h.next) (hk : ∀ h', KB (Qay X) h') : s61G J0 QaC f97 (.agg (Qx X)) h KB := by
  unfold s61G
  rw [QJ,Qw]
  have hl:=c.l1
  have q1 : RowAt wrc 3 (Qh h (.cells false 40 (Qx X))) X.vw X.wrs:=c.wrs.push _
  have g1:=QO h (.cells false 40 (Qx X))
  have n0 : (Qh h (.cells false 40 (Qx X))).next = h.next + 1:=rfl
  have b0 : (Qh h (.cells false 40 (Qx X))).base = h.base:=rfl
  generalize Qh h (.cells false 40 (Qx X)) = h1 at q1 g1 n0 b0 ⊢
  unfold Qay at hk
  refine D4 (itB X) (fun w=>w.1) (l:=X.wrs) (fun i x h''=>x = (AV.ptr h.next 0,AV.int .i64 (Int.ofNat i),()) ∧ Low h1.next h1 h'') (by omega) ?_ ?_ ⟨rfl,.refl _ _⟩
  · rintro i hi x h2 self ⟨rfl, lo⟩ s1 s2 s3 s4
    have n2:=lo.next
    have b2:=lo.base
    have ga : h2.get h.next = .cells false 40 (Qx X):=(lo.get _ (by omega)).trans g1
    obtain ⟨id,o,p1,p2,p3⟩:=RowAt.rdF (f:=wrc) (fun _=>rfl) q1 hi
    simp only [QW,QS (o:=Nat.add 0 27) (v:=X.vw) ga rfl,q1.len,QQ,Qk,Qn,Q0 hi,WR,QN (n:=42) (o:=0) (l:=Qx X) ga rfl,p1,p2 h2 _ (fun id hid=>lo.get id hid),
      QN (n:=3) (o:=Nat.add 0 17) (l:=[.int .i64 X.w,.int .i32 X.l,.int .i32 X.t]) ga rfl]
    refine t97 (wr:=X.wrs[i]) (w:=X.w) (l:=X.l) (t:=X.t) (by omega) fun h3 lo3=>?_
    have lo4 : Low h1.next h1 h3:=lo.trans (lo3.down n2)
    have ga3 : h3.get h.next = .cells false 40 (Qx X):=(lo4.get _ (by omega)).trans g1
    have keep3 : ∀ id,id < h1.next→h3.get id = h1.get id:=fun id hid=>lo4.get id hid
    refine ⟨_,_,_,_,_,_,_,_,_,_,_,_,rfl,?_⟩
    cases hP : itB X X.wrs[i]
    · have e : okI (Str.of X.wrs[i].1) X.n X.m X.bw X.bl X.bt (Str.of X.anchor) X.w X.l X.t (Str.of X.wrs[i].2.1) X.wrs[i].2.2 = false := hP
      (simp only [↓zA,Qk,Qn,zB,QA,e])
      have hk:=hk h3
      rw [s3 hP] at hk; exact hk
    · have e : okI (Str.of X.wrs[i].1) X.n X.m X.bw X.bl X.bt (Str.of X.anchor) X.w X.l X.t (Str.of X.wrs[i].2.1) X.wrs[i].2.2 = true := hP
      cases i with
      | zero =>
        (simp only [↓zA,Qk,Qn,zB,QA,e,Q5 (Nat.le_refl 0)])
        rw [Zn 0 (by omega)]
        exact s2 rfl hP _ _ ⟨rfl,lo4⟩
      | succ j =>
        obtain ⟨id',o',p1',p2',p3'⟩:=RowAt.rdF (f:=wrc) (fun _=>rfl) q1 (i:=j) (by omega)
        (simp only [↓zA,Qk,Qn,zB,QA,e,Q0 (Nat.zero_lt_succ j),JF j (by omega),p1,p1',QW,QS (o:=Nat.add 0 27) (v:=X.vw) ga3 rfl,p3' h3 0 (Str.of X.wrs[j].1) _ keep3 (by decide) rfl,p3 h3 0 (Str.of X.wrs[j + 1].1) _ keep3 (by decide) rfl])
        cases h3' : Str.lt (Str.of X.wrs[j].1) (Str.of X.wrs[j + 1].1)
        · (simp only [↓zA, Qk, Qn, zB])
          have hk:=hk h3
          rw [s4 j rfl h3'] at hk; exact hk
        · (simp only [↓zA, Qk, Qn, zB])
          rw [Zn (j + 1) (by omega)]
          exact s1 j rfl hP h3' _ _ ⟨rfl,lo4⟩
  · rintro x h2 self ⟨rfl, lo⟩ hg
    have ga : h2.get h.next = .cells false 40 (Qx X):=(lo.get _ (by omega)).trans g1
    have hk:=hk h2
    rw [hg] at hk
    simp only [QW,QS (o:=Nat.add 0 27) (v:=X.vw) ga rfl,q1.len,QQ,Qk,Qn,Q5 (Nat.le_refl X.wrs.length),Wi]
    cases h1' : ltI (Int.ofNat X.wrs.length) (Int.ofNat 1)
    · rw [h1'] at hk
      (simp only [↓zA,Qk,Qn,zB,QW,QS (o:=Nat.add 0 27) (v:=X.vw) ga rfl,q1.len])
      exact hk
    · rw [h1'] at hk
      (simp only [↓zA,Qk,Qn,zB])
      exact hk
end
end Go.Proofs.YtodlaigjjknpkaaGreatDoor
