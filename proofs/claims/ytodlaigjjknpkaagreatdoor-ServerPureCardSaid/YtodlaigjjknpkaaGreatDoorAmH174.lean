import Derived.Test.YtodlaigjjknpkaaGreatDoorAmS13
noncomputable section
namespace Go.Proofs.YtodlaigjjknpkaaGreatDoor
open Go Go.Am
set_option linter.all false
set_option maxRecDepth 100000
def YS (r5 : AV × AV × AV × AV × Unit→List Dfr→H→Prop) : (AV × AV × AV × AV × AV × Unit→List Dfr→H→Prop)→AV × AV × AV × AV × AV × Unit→List Dfr→H→Prop:=fun r12 v9 d10 h11=>
asI .i64 v9.2.2.2.2.1 fun x13=>
asI .i64 v9.2.1 fun x14=>
fB (ltI x14 x13) fun b15=>
J0.jn (fun v16 h17=>
J0.jn (fun v19 h20=>
J0.jn (fun v22 h23=>
J0.jb (fun b26 v27=>
J0.jn (fun v30 h31=>
J0.jn (fun v33 h34=>
J0.jn (fun v36 h37=>
J0.jn (fun v41 h42=>
J0.jb (fun b45 v46=>
J0.jn (fun v49 h50=>
Qo (AV.bool b15) v49 (AV.bool false) fun b56=>
br b56 (
asI .i64 v9.2.2.2.2.1 fun x57=>
fI (Qu .i64 (Int.sub x57 (Int.ofNat 1))) fun x58=>
asI .i64 v9.2.2.2.2.1 fun x59=>
fI (Qu .i64 (Int.sub x59 (Int.ofNat 1))) fun x60=>
ixK 1 v9.1 (AV.int .i64 x60) fun p61=>
ldS p61 h50 fun s62=>
ixK 1 v9.1 v9.2.2.2.2.1 fun p63=>
ldS p63 h50 fun Ub=>
ixK 1 v9.1 v9.2.2.2.2.1 fun p65=>
stV p65 (AV.str s62) h50 fun h66=>
ixK 1 v9.1 (AV.int .i64 x58) fun p67=>
stV p67 (AV.str Ub) h66 fun h68=>
asI .i64 v9.2.2.2.2.1 fun x69=>
fI (Qu .i64 (Int.sub x69 (Int.ofNat 1))) fun x70=>
r12 (v9.1,v9.2.1,v9.2.2.1,v9.2.2.2.1,(AV.int .i64 x70),()) d10 h68) (
asI .i64 v9.2.2.2.1 fun x71=>
fI (Qu .i64 (Int.add x71 (Int.ofNat 1))) fun x72=>
r5 (v9.1,v9.2.1,v9.2.2.1,(AV.int .i64 x72),()) d10 h50)) fun j51=>
br b15 (
asS v27 fun s250=>
asS v46 fun s54=>
Ub s250 s54 h42 fun b55 h52=>
j51 (AV.bool b55) h52) (
j51 Qb h42)) fun j47=>
br b15 (
ldS v41 h42 fun s48=>
j47 true (AV.str s48)) (
j47 false Qb)) fun j43=>
br b15 (
ixK 1 v30 v36 fun p44=>
j43 p44 h37) (
j43 Qb h37)) fun j38=>
br b15 (
asI .i64 v33 fun x39=>
fI (Qu .i64 (Int.sub x39 (Int.ofNat 1))) fun x40=>
j38 (AV.int .i64 x40) h34) (
j38 Qb h34)) fun j35=>
br b15 (
j35 v9.2.2.2.2.1 h31) (
j35 Qb h31)) fun j32=>
br b15 (
j32 v9.1 h23) (
j32 Qb h23)) fun j28=>
br b15 (
ldS v22 h23 fun s29=>
j28 true (AV.str s29)) (
j28 false Qb)) fun j24=>
br b15 (
ixK 1 v16 v19 fun p25=>
j24 p25 h20) (
j24 Qb h20)) fun j21=>
br b15 (
j21 v9.2.2.2.2.1 h17) (
j21 Qb h17)) fun j18=>
br b15 (
j18 v9.1 h11) (
j18 Qb h11)
def Yc (k : H→Prop) : (AV × AV × AV × AV × Unit→List Dfr→H→Prop)→AV × AV × AV × AV × Unit→List Dfr→H→Prop:=fun r5 v2 d3 h4=>
asI .i64 v2.2.2.2.1 fun x6=>
asI .i64 v2.2.2.1 fun x7=>
fB (ltI x6 x7) fun b8=>
br b8 (
J0.lp (α:=AV × AV × AV × AV × AV × Unit) (YS r5) (v2.1,v2.2.1,v2.2.2.1,v2.2.2.2.1,v2.2.2.2.1,()) d3 h4) (
Qr (gam J0 [(139,Nm Ub)]) d3 h4 fun h73=>
k  h73)
theorem Qbg (v : AV) (a1 a2 : Int) (h : H) (k : H→Prop) : DF v a1 a2 h k = fI (Qu .i64 (Int.add a1 (Int.ofNat 1))) fun x1=>J0.lp (Yc k) (v,.int .i64 a1,.int .i64 a2,.int .i64 x1,()) [] h:=by kernel_rfl
theorem inner0 (r5 : AV × AV × AV × AV × Unit→List Dfr→H→Prop) (r12 : AV × AV × AV × AV × AV × Unit→List Dfr→H→Prop) (v nn : AV) (i : Int) (h : H) : YS r5 r12 (v,.int .i64 (.ofNat 0),nn,.int .i64 i,.int .i64 (.ofNat 0),()) [] h = fI (Qu .i64 (Int.add i (Int.ofNat 1))) fun x72=>r5 (v,.int .i64 (.ofNat 0),nn,.int .i64 x72,()) [] h:=by kernel_rfl
theorem innerS (r5 : AV × AV × AV × AV × Unit → List Dfr → H → Prop) (r12 : AV × AV × AV × AV × AV × Unit → List Dfr → H → Prop) (v nn : AV) (i : Int) (m : Nat) (h : H) : YS r5 r12 (v, .int .i64 (.ofNat 0), nn, .int .i64 i, .int .i64 (.ofNat (Nat.succ m)), ()) [] h =
    ixK 1 v (.int .i64 (.ofNat (Nat.succ m))) fun p25 => ldS p25 h fun s29 => fI (Qu .i64 (Int.sub (.ofNat (Nat.succ m)) (.ofNat 1))) fun x40 => ixK 1 v (.int .i64 x40) fun p44 => ldS p44 h fun s48 => Ub s29 s48 h fun b55 h52 => br b55 (
      fI (Qu .i64 (Int.sub (.ofNat (Nat.succ m)) (.ofNat 1))) fun x58=>fI (Qu .i64 (Int.sub (.ofNat (Nat.succ m)) (.ofNat 1))) fun x60=>ixK 1 v (.int .i64 x60) fun p61=>ldS p61 h52 fun s62=>ixK 1 v (.int .i64 (.ofNat (Nat.succ m))) fun p63=>ldS p63 h52 fun Ub=>
        ixK 1 v (.int .i64 (.ofNat (Nat.succ m))) fun p65=>stV p65 (.str s62) h52 fun h66=>ixK 1 v (.int .i64 x58) fun p67=>stV p67 (.str Ub) h66 fun h68=>fI (Qu .i64 (Int.sub (.ofNat (Nat.succ m)) (.ofNat 1))) fun x70=>r12 (v,.int .i64 (.ofNat 0),nn,.int .i64 i,.int .i64 x70,()) [] h68) (
      fI (Qu .i64 (Int.add i (Int.ofNat 1))) fun x72=>r5 (v,.int .i64 (.ofNat 0),nn,.int .i64 x72,()) [] h52):=by kernel_rfl
theorem Jq (k : H→Prop) (r5 : AV × AV × AV × AV × Unit→List Dfr→H→Prop) (v a : AV) (n i : Int) (h : H) : Yc k r5 (v,a,.int .i64 n,.int .i64 i,()) [] h = fB (ltI i n) fun b8=>br b8 (J0.lp (YS r5) (v,a,.int .i64 n,.int .i64 i,.int .i64 i,()) [] h) (k h):=by kernel_rfl
theorem s212_is (a : Str) (h : H) (k : Bool→H→Prop) : s212 a h k = k false h:=by
  show fB (Bool.not (Str.beq a a)) (fun b1=>k b1 h) = _
  rw [Qk,Str.beq_iff.2 rfl]; rfl
theorem Vs (b : Bool) (k : Bool→Prop) : asB (.bool b) k = k b:=rfl
theorem W5 (b : Str) (k : Str→Prop) : asS (.str b) k = k b:=rfl
theorem s139_is (a b : Str) (h : H) (k : Bool→H→Prop) : Ub a b h k = k (Str.lt a b) h:=by
  unfold Ub Qbs
  simp only [s212_is,J0.jn_ok,Qc9,X8,Vs,W5,Qo,Qk,Bool.not_false,Bool.not_true]
def Bef (a b : Str) : Prop:=Str.lt a b = true ∧ Str.lt b a = false
theorem Bef.irr {a : Str} : ¬ Bef a a:=fun h=>by have h1:=h.1; rw [h.2] at h1; cases h1
theorem Bef.asymm {a b : Str} (h : Bef a b) : ¬ Bef b a:=fun q=>by have h1:=h.1; rw [q.2] at h1; cases h1
theorem Bef.tri : ∀ {l0 : List Str},l0.Pairwise Bef→∀ {a b : Str},a ∈ l0→b ∈ l0→a = b ∨ Bef a b ∨ Bef b a
  | [],_,a,b,ha,hb=>by cases ha
  | c :: t, h, a, b, ha, hb => by
    rw [List.pairwise_cons] at h
    rcases List.mem_cons.1 ha with e1 | h1 <;> rcases List.mem_cons.1 hb with e2 | h2
    · exact .inl (e1.trans e2.symm)
    · subst e1; exact .inr (.inl (h.1 b h2))
    · subst e2; exact .inr (.inr (h.1 a h1))
    · exact Bef.tri h.2 h1 h2
theorem Bef.trans : ∀ {l0 : List Str},l0.Pairwise Bef→∀ {a b c : Str},a ∈ l0→b ∈ l0→c ∈ l0→Bef a b→Bef b c→Bef a c
  | [],_,a,b,c,ha,hb,hc,h1,h2=>by cases ha
  | d :: t, h, a, b, c, ha, hb, hc, h1, h2 => by
    rw [List.pairwise_cons] at h
    rcases List.mem_cons.1 ha with ea | ja <;> rcases List.mem_cons.1 hb with eb | jb <;> rcases List.mem_cons.1 hc with ec | jc
    · subst ea; subst eb; exact absurd h1 Bef.irr
    · subst ea; exact h.1 c jc
    · subst ea; subst ec; exact absurd h1 h2.asymm
    · subst ea; exact h.1 c jc
    · subst eb; exact absurd (h.1 a ja) h1.asymm
    · subst eb; exact absurd (h.1 a ja) h1.asymm
    · subst ec; exact absurd (h.1 b jb) h2.asymm
    · exact Bef.trans h.2 ja jb jc h1 h2
theorem US : ∀ {l l' : List Str}, l.Pairwise Bef → l'.Pairwise Bef → l.Perm l' → l = l'
  | [],l',_,_,p=>by rw [List.nil_perm] at p; exact p.symm
  | a :: t,[],_,_,p=>by have:=p.length_eq; simp at this
  | a :: t, b :: t', h, h', p => by
    rw [List.pairwise_cons] at h h'
    have hab : a = b:=by
      rcases List.mem_cons.1 (p.mem_iff.1 (List.mem_cons_self (a:=a))) with e | e
      · exact e
      · rcases List.mem_cons.1 (p.mem_iff.2 (List.mem_cons_self (a := b))) with e' | e'
        · exact e'.symm
        · exact absurd (h.1 b e') (h'.1 a e).asymm
    subst hab
    rw [US h.2 h'.2 (List.Perm.cons_inv p)]
theorem down1 : ∀ m,m < 13→Qu .i64 (Int.sub (.ofNat (Nat.succ m)) (.ofNat 1)) = .ofNat m:=by decide +kernel
theorem up1 : ∀ m,m < 13→Qu .i64 (Int.add (.ofNat m) (.ofNat 1)) = .ofNat (m + 1):=by decide +kernel
theorem G3 {b n i : Nat} {ex : Bool} {k : AV→Prop} (h : i < n) : ixK 1 (.slice b 0 n n 1 ex) (.int .i64 (.ofNat i)) k = k (.ptr b i):=by
  show ck (Nat.blt i n) (fN (Nat.add 0 (Nat.mul i 1)) fun o=>k (.ptr b o)) = _
  rw [(QP i n).2 h,Zk]
  show k (.ptr b (0 + i * 1)) = _
  rw [Nat.zero_add,Nat.mul_one]
structure Arr (h0 : H) (b : Nat) (mv : Bool) (T : Nat) (L : List Str) (h : H) : Prop where
  row : h.get b = .cells mv T (L.map AV.str)
  same : ∀ id,id ≠ b→h.get id = h0.get id
  next : h.next = h0.next
  base : h.base = h0.base
  lo : h0.base ≤ b
theorem Arr.ld {h0 h : H} {b T i : Nat} {mv : Bool} {L : List Str} (a : Arr h0 b mv T L h) {s : Str} (hs : L[i]? = some s) {k : Str→Prop} : ldS (.ptr b i) h k = k s:=by
  show Zp (h.get b) _ _ = _
  rw [a.row]
  show op' (Zd (L.map AV.str) i) (fun v=>asS v k) = _
  rw [YA,List.getElem?_map,hs]; rfl
theorem Arr.st {h0 h : H} {b T i : Nat} {mv : Bool} {L : List Str} (a : Arr h0 b mv T L h) {s : Str} (hi : i < L.length) {k : H→Prop} (hk : ∀ h',Arr h0 b mv T (L.set i s) h'→k h') : stV (.ptr b i) (.str s) h k:=by
  show Zp (h.get b) _ _
  rw [a.row]
  show ck (ZQ (.str s)) (op' (Qy i [.str s] (L.map AV.str)) fun cs'=>ZL b (.cells mv T cs') h k)
  rw [show ZQ (.str s) = true from rfl,Qz]
  refine ⟨rfl,?_⟩
  have hp : Qy i [AV.str s] (L.map AV.str) = some ((L.set i s).map AV.str):=by
    rw [Yp,if_pos (by simp; omega)]
    rw [List.map_set,List.set_eq_take_append_cons_drop,if_pos (by simpa using hi)]
    simp
  rw [QF]
  refine ⟨_,hp,?_⟩
  rw [QZ]
  have hlt : b < h.next:=H.lt_of_live (by rw [a.row]; rfl)
  obtain ⟨h',p⟩:=ZB (h:=h) (i:=b) (.cells mv T ((L.set i s).map AV.str)) hlt (by rw [a.base]; exact a.lo)
  obtain ⟨_,_,n',b',g⟩:=Q1 p
  exact ⟨h',p,hk h' ⟨by rw [g,if_pos rfl],fun id hi=>by rw [g,if_neg hi]; exact a.same id hi,by rw [n',a.next],by rw [b',a.base],a.lo⟩⟩
theorem inner_ok {h0 : H} {b T n : Nat} {mv ex : Bool} {l0 : List Str} (hl0 : l0.Pairwise Bef) (hn : n = l0.length) (h12 : n ≤ 12) {r5 : AV × AV × AV × AV × Unit → List Dfr → H → Prop} {nn : AV} {i : Nat} (hi : i < n) {C : List Str} :
    ∀ (m f : Nat),m < f→∀ (A : List Str) (x : Str) (B : List Str) (h : H),A.length = m→(A ++ x :: B).length = i + 1→Arr h0 b mv T (A ++ x :: B ++ C) h→(A ++ x :: B ++ C).Perm l0→(A ++ B).Pairwise Bef→(∀ y ∈ B,Bef x y) →
    (∀ (S : List Str) (h : H),S.length = i + 1→Arr h0 b mv T (S ++ C) h→(S ++ C).Perm l0→S.Pairwise Bef→r5 (.slice b 0 n n 1 ex,.int .i64 (.ofNat 0),nn,.int .i64 (.ofNat (i + 1)),()) [] h) →
    ZW (YS r5) f (.slice b 0 n n 1 ex,.int .i64 (.ofNat 0),nn,.int .i64 (.ofNat i),.int .i64 (.ofNat m),()) [] h:=by
  intro m
  induction m with
  | zero =>
    intro f hf A x B h hA hlen a hp hs hx hk
    obtain ⟨f,rfl⟩ : ∃ f',f = f' + 1:=⟨f - 1,by omega⟩
    have : A = []:=List.length_eq_zero_iff.1 hA
    subst this
    show YS r5 (ZW (YS r5) f) _ [] h
    rw [inner0,Qn,up1 i (by omega)]
    exact hk (x :: B) h hlen a hp (List.pairwise_cons.2 ⟨hx,hs⟩)
  | succ m ih =>
    intro f hf A x B h hA hlen a hp hs hx hk
    obtain ⟨f,rfl⟩ : ∃ f',f = f' + 1:=⟨f - 1,by omega⟩
    show YS r5 (ZW (YS r5) f) (_,_,_,_,.int .i64 (.ofNat (Nat.succ m)),()) [] h
    obtain ⟨A',y,rfl⟩ : ∃ A' y,A = A' ++ [y]:=by
      cases List.eq_nil_or_concat A with
      | inl e=>subst e; simp at hA
      | inr e=>obtain ⟨A',y,e⟩:=e; exact ⟨A',y,by simpa using e⟩
    have hA' : A'.length = m:=by simpa using hA
    have hln:=hp.length_eq
    simp only [List.length_append,List.length_cons] at hln hlen
    have hmn : m + 1 < n:=by simp at hlen; omega
    have gx : (A' ++ [y] ++ x :: B ++ C)[Nat.succ m]? = some x:=by
      rw [List.append_assoc,List.append_assoc,List.getElem?_append_right (by omega),hA']
      simp
    have gy : (A' ++ [y] ++ x :: B ++ C)[m]? = some y:=by
      rw [List.append_assoc,List.append_assoc,List.getElem?_append_right (by omega),hA']
      simp
    have hxm : x ∈ l0:=hp.mem_iff.1 (by simp)
    have hym : y ∈ l0:=hp.mem_iff.1 (by simp)
    have hnd : (A' ++ [y] ++ x :: B ++ C).Nodup:=hp.nodup_iff.2 (hl0.imp fun h e=>by subst e; exact h.irr)
    have hne : x ≠ y:=by
      intro e; subst e
      rw [List.append_assoc,List.append_assoc,List.nodup_append] at hnd
      have:=hnd.2.1
      simp at this
    rw [innerS,G3 hmn,a.ld gx,Qn,down1 m (by omega),G3 (by omega),a.ld gy,s139_is,Zt]
    cases hlt : Str.lt x y with
    | true =>
      left
      refine ⟨rfl,?_⟩
      have hxy : Bef x y:=by
        rcases Bef.tri hl0 hxm hym with e | e | e
        · exact absurd e hne
        · exact e
        · rw [e.2] at hlt; cases hlt
      rw [Qn,Qn,G3 (by omega),a.ld gy,G3 hmn,a.ld gx,G3 hmn]
      refine a.st (by simp; omega) fun h1 a1=>?_
      rw [G3 (by omega)]
      refine a1.st (by simp; omega) fun h2 a2=>?_
      rw [Qn]
      have he : ((A' ++ [y] ++ x :: B ++ C).set (Nat.succ m) y).set m x = A' ++ x :: (y :: B) ++ C:=by
        have e1 : A' ++ [y] ++ x :: B ++ C = A' ++ (y :: x :: (B ++ C)):=by simp
        rw [e1,List.set_append_right _ _ (by omega),List.set_append_right _ _ (by omega),hA']
        simp
      rw [he] at a2
      have hpp : (A' ++ x :: (y :: B) ++ C).Perm (A' ++ [y] ++ x :: B ++ C):=by
        rw [List.append_assoc,List.append_assoc,List.append_assoc]
        exact List.Perm.append_left A' (List.Perm.swap y x (B ++ C))
      refine ih f (by omega) A' x (y :: B) h2 hA' (by simp at hlen ⊢; omega) a2 (hpp.trans hp) (by simpa using hs) (fun z hz=>?_) hk
      rcases List.mem_cons.1 hz with rfl | hz
      · exact hxy
      · exact hx z hz
    | false =>
      right
      refine ⟨rfl,?_⟩
      have hyx : Bef y x:=by
        rcases Bef.tri hl0 hxm hym with e | e | e
        · exact absurd e hne
        · rw [e.1] at hlt; cases hlt
        · exact e
      rw [Qn,up1 i (by omega)]
      refine hk (A' ++ [y] ++ x :: B) h (by simp at hlen ⊢; omega) a hp ?_
      rw [List.pairwise_append] at hs ⊢
      refine ⟨hs.1,List.pairwise_cons.2 ⟨hx,hs.2.1⟩,fun z hz w hw=>?_⟩
      have hzx : Bef z x:=by
        rcases List.mem_append.1 hz with hz' | hz'
        · have hzy : Bef z y := (List.pairwise_append.1 hs.1).2.2 z hz' y (by simp)
          exact .trans hl0 (hp.mem_iff.1 (by simp [hz'])) hym hxm hzy hyx
        · have : z = y := by simpa using hz'
          subst this; exact hyx
      rcases List.mem_cons.1 hw with rfl | hw
      · exact hzx
      · exact hs.2.2 z hz w hw
theorem outer_ok {h0 : H} {b T n : Nat} {mv ex : Bool} {l0 : List Str} (hl0 : l0.Pairwise Bef) (hn : n = l0.length) (h12 : n ≤ 12) {k : H→Prop} (hk : ∀ h,Arr h0 b mv T l0 h→k h) :
    ∀ (c f i : Nat),c < f→n - i = c→∀ (S C : List Str) (h : H),S.length = i→Arr h0 b mv T (S ++ C) h→(S ++ C).Perm l0→S.Pairwise Bef→ZW (Yc k) f (.slice b 0 n n 1 ex,.int .i64 (.ofNat 0),.int .i64 (.ofNat n),.int .i64 (.ofNat i),()) [] h:=by
  intro c
  induction c with
  | zero =>
    intro f i hf hc S C h hS a hp hs
    obtain ⟨f,rfl⟩ : ∃ f',f = f' + 1:=⟨f - 1,by omega⟩
    show Yc k (ZW (Yc k) f) _ [] h
    rw [Jq,Qk,Zt]
    right
    have hl:=hp.length_eq
    rw [List.length_append] at hl
    have hC : C = []:=List.length_eq_zero_iff.1 (by omega)
    subst hC
    rw [List.append_nil] at a hp
    refine ⟨?_,hk h ?_⟩
    · show Nat.blt i n = false
      cases hb : Nat.blt i n with
      | false=>rfl
      | true=>rw [QP] at hb; omega
    · rw [← US hs hl0 hp]; exact a
  | succ c ih =>
    intro f i hf hc S C h hS a hp hs
    obtain ⟨f,rfl⟩ : ∃ f',f = f' + 1:=⟨f - 1,by omega⟩
    show Yc k (ZW (Yc k) f) _ [] h
    rw [Jq,Qk,Zt]
    left
    refine ⟨(QP i n).2 (by omega),?_⟩
    rw [J0.lp_ok]
    have hl:=hp.length_eq
    rw [List.length_append] at hl
    obtain ⟨x,C',rfl⟩ : ∃ x C',C = x :: C':=by
      cases C with
      | nil=>simp at hl; omega
      | cons x C'=>exact ⟨x,C',rfl⟩
    refine inner_ok (C:=C') hl0 hn h12 (by omega) i fuel (by unfold fuel; omega) S x [] h hS (by simp; omega) (by simpa using a) (by simpa using hp) (by simpa using hs) (by simp) fun S' h' hS' a' hp' hs'=>?_
    exact ih f (i + 1) (by omega) (by omega) S' C' h' hS' a' hp' hs'
theorem s366_ok {h : H} {b T n : Nat} {mv ex : Bool} {l l0 : List Str} (hl0 : l0.Pairwise Bef) (hp : l.Perm l0) (hn : n = l0.length) (h12 : n ≤ 12) (hrow : h.get b = .cells mv T (l.map AV.str)) (hb : h.base ≤ b) {k : H→Prop} (hk : ∀ h',Arr h b mv T l0 h'→k h') :
    DF (.slice b 0 n n 1 ex) (.ofNat 0) (.ofNat n) h k:=by
  rw [Qbg,Qn,up1 0 (by omega),J0.lp_ok]
  have a : Arr h b mv T l h:=⟨hrow,fun _ _=>rfl,rfl,rfl,hb⟩
  cases l with
  | nil =>
    have : l0 = []:=(List.nil_perm.1 hp)
    subst this
    simp at hn; subst hn
    have : ZW (Yc k) fuel = Yc k (ZW (Yc k) (fuel - 1)):=rfl
    rw [this]
    show Yc k _ (_,_,_,.int .i64 (.ofNat (0 + 1)),()) [] h
    rw [Jq,Qk,Zt]
    exact .inr ⟨rfl,hk h a⟩
  | cons x t =>
    have hl:=hp.length_eq
    refine outer_ok hl0 hn h12 hk (n - 1) fuel 1 (by unfold fuel; omega) rfl [x] t h rfl a hp (by simp)
theorem s375_is : ∀ n,n < 13→∃ x,∀ (h : H) (k : Int→H→Prop),s375 (.ofNat n) h k = k x h:=by
  intro n hn
  obtain rfl | rfl | rfl | rfl | rfl | rfl | rfl | rfl | rfl | rfl | rfl | rfl | rfl : n = 0 ∨ n = 1 ∨ n = 2 ∨ n = 3 ∨ n = 4 ∨ n = 5 ∨ n = 6 ∨ n = 7 ∨ n = 8 ∨ n = 9 ∨ n = 10 ∨ n = 11 ∨ n = 12:=by omega
  · exact ⟨.ofNat 0,fun h k=>by kernel_rfl⟩
  · exact ⟨.ofNat 1,fun h k=>by kernel_rfl⟩
  · exact ⟨.ofNat 2,fun h k=>by kernel_rfl⟩
  · exact ⟨.ofNat 2,fun h k=>by kernel_rfl⟩
  · exact ⟨.ofNat 3,fun h k=>by kernel_rfl⟩
  · exact ⟨.ofNat 3,fun h k=>by kernel_rfl⟩
  · exact ⟨.ofNat 3,fun h k=>by kernel_rfl⟩
  · exact ⟨.ofNat 3,fun h k=>by kernel_rfl⟩
  · exact ⟨.ofNat 4,fun h k=>by kernel_rfl⟩
  · exact ⟨.ofNat 4,fun h k=>by kernel_rfl⟩
  · exact ⟨.ofNat 4,fun h k=>by kernel_rfl⟩
  · exact ⟨.ofNat 4,fun h k=>by kernel_rfl⟩
  · exact ⟨.ofNat 4,fun h k=>by kernel_rfl⟩
theorem Qbh {n : Nat} (hn : n < 13) : ∃ x,∀ (h : H) (k : Int→H→Prop),Qd9 (.ofNat n) h k = k x h:=by
  obtain ⟨x,hx⟩:=s375_is n hn
  refine ⟨x,fun h k=>?_⟩
  unfold Qd9 Qd8
  rw [X8,hx]
theorem Qb2 {α : Type} (b : (α→List Dfr→H→Prop)→α→List Dfr→H→Prop) (v : α) (d : List Dfr) (h : H) : J0.lp b v d h = b (ZW b (fuel - 1)) v d h:=by
  rw [J0.lp_ok]; rfl
theorem QQ (kk : IntKind) (x : Int) (k : Int→Prop) : asI kk (.int kk x) k = k x:=by
  apply propext; rw [QD]
  constructor
  · rintro ⟨n,e,q⟩; injection e with _ e; subst e; exact q
  · exact fun q=>⟨x,rfl,q⟩
theorem sub0 : ∀ n,n < 13→Qu .i64 (Int.sub (.ofNat n) (.ofNat 0)) = .ofNat n:=by decide +kernel
theorem u64n : ∀ n,n < 13→Qu .u64 (.ofNat n) = .ofNat n:=by decide +kernel
theorem lt12 : ∀ n,n < 13→ltI (.ofNat 12) (.ofNat n) = false:=by decide +kernel
theorem leave_nil (G : Gam) (h : H) (k : H→Prop) : Qr G [] h k = k h:=rfl
theorem Qbi {n : Nat} (hn : n < 13) (v : AV) (x : Int) (h : H) (k : H→Prop) : Qea v (.ofNat 0) (.ofNat n) x h k = DF v (.ofNat 0) (.ofNat n) h k:=by
  first
    | unfold Qea DG
    | (show DG J0 (rec321 63) DF s367 s368 s369 s370 s371 Ub s372 s373 v _ _ x h k = _; unfold DG)
  rw [Qb2]
  simp only [QQ,Qn,Qk,sub0 n hn,lt12 n hn,Bool.not_false,Qc9,leave_nil]
theorem lenK_sl (a b c d e : Nat) (f : Bool) (k : Nat→Prop) : Q6 (.slice a b c d e f) k = k c:=rfl
theorem lenK_nil (k : Nat→Prop) : Q6 .nils k = k 0:=rfl
theorem s249_is {b n : Nat} {ex : Bool} (h12 : n < 13) (h : H) (k : H→Prop) : Nr (.slice b 0 n n 1 ex) h k = DF (.slice b 0 n n 1 ex) (.ofNat 0) (.ofNat n) h k:=by
  obtain ⟨x,hx⟩:=Qbh h12
  unfold Nr Qbk
  rw [lenK_sl,Qn,u64n n h12,hx]
  exact Qbi h12 _ _ _ _
theorem s249_nil (h : H) (k : H→Prop) : Nr .nils h k = k h:=by
  obtain ⟨x,hx⟩:=Qbh (n:=0) (by omega)
  unfold Nr Qbk
  rw [lenK_nil,Qn,u64n 0 (by omega),hx]
  rw [Qbi (by omega),Qbg,Qn,up1 0 (by omega),Qb2,Jq,Qk]
  rfl
def VR (k : H→Prop) : (AV × AV × Unit→List Dfr→H→Prop)→AV × AV × Unit→List Dfr→H→Prop:=fun r7 v4 d5 h6=>
YV v4.2.1 h6 fun v8 h9=>
Go.Am.asTup v8 fun l10=>
op' (Zd l10 0) fun v11=>
asB v11 fun b12=>
br b12 (
op' (ZV v4.2.1 h9) fun v13=>
Go.Am.asTup v13 fun l14=>
op' (Zd l14 0) fun v15=>
asS v15 fun s16=>
Nd (YB J0 [] [] (Kk ty (YB J0 [] [] Zw))) v4.1 [(AV.str s16)] h9 fun v17 h18=>
asB v17 fun b19=>
fB (Bool.not b19) fun b20=>
br b20 (
Qr (YB J0 [] [] (Kk ty (YB J0 [] [] Zw))) d5 h18 fun h21=>
k  h21) (
r7 (v4.1,v4.2.1,()) d5 h18)) (
Qr (YB J0 [] [] (Kk ty (YB J0 [] [] Zw))) d5 h9 fun h22=>
k  h22)
theorem s250_is (a0 a1 : AV) (h : H) (k : H→Prop) : Wa a0 a1 h k = ldV a1 h fun v1=>Z9 v1 h fun v2 h3=>J0.lp (VR k) (a0,v2,()) [] h3:=by kernel_rfl
def Wr (n1 : Nat) (a1 : AV) : List AV:=[.nils,a1,.ptr n1 0,.junk,.nils,.junk,a1,.junk,.junk,.junk,.junk,.junk,.junk]
theorem asg_is (n1 : Nat) (a1 : AV) (s : Str) (K : Ks) (h : H) : Kk ty (YB J0 [] [] Zw) (Wx Tryz.f320 0).1 K (DL [7] [.str s] (Wr n1 a1)) [] h = K.norm [.nils,a1,.ptr n1 0,.junk,.nils,.str s,a1,.str s,.junk,.junk,.junk,.junk,.junk] [] h:=by kernel_rfl
theorem rnd_is (n1 : Nat) (a1 : AV) (s : Str) (K : Ks) (h : H) : Kk ty (YB J0 [] [] Zw) (Wx Tryz.f320 0).2 K [.nils,a1,.ptr n1 0,.junk,.nils,.str s,a1,.str s,.junk,.junk,.junk,.junk,.junk] [] h =
    ldV (.ptr n1 0) h fun v8=>Qs (.cells false 9 [.str s]) h fun n9 h9=>apC 9 1 16 v8 (.slice n9 0 1 1 1 true) h9 fun v11 h11=>stV (.ptr n1 0) v11 h11 fun h12=>K.norm [.nils,a1,.ptr n1 0,.junk,.nils,.str s,a1,.str s,v8,.str s,.slice n9 0 1 1 1 true,v11,.junk] [] h12:=by kernel_rfl
def Nk (h : H) (v : AV) (L : List Str) : Prop :=
  (L = [] ∧ v = .nils) ∨ (L ≠ [] ∧ v = .slice (h.next - 1) 0 L.length L.length 1 false ∧ h.get (h.next - 1) = .cells (Nat.blt 1 L.length) 9 (L.map AV.str))
abbrev GY : Gam:=YB J0 [] [] (Kk ty (YB J0 [] [] Zw))
theorem Qew : ∀ n,n < 257→Nat.ble (Nat.mul n 16) QR = true:=by decide +kernel
theorem Yl (a b c d e : Nat) (f : Bool) (n : Prop) (k : Nat→Nat→Nat→Nat→Nat→Bool→Prop) : JJ (.slice a b c d e f) n k = k a b c d e f:=rfl
theorem YL (m : Bool) (t : Nat) (cs : List AV) (k1 : Bool→Nat→List AV→Prop) (k2 : Nat→Nat→Bool→Str→Prop) : Zp (.cells m t cs) k1 k2 = k1 m t cs:=rfl
theorem ldc {h : H} {i T : Nat} {mv : Bool} {v : AV} {k : AV→Prop} (hg : h.get i = .cells mv T [v]) : ldV (.ptr i 0) h k = k v:=by
  show Zp (h.get i) _ _ = _
  rw [hg]; rfl
theorem stc {h : H} {i T : Nat} {mv : Bool} {v x : AV} {k : H→Prop} (hg : h.get i = .cells mv T [v]) (hx : ZQ x = true) (hb : h.base ≤ i) (hk : ∀ h',h.put i (.cells mv T [x]) = some h'→k h') : stV (.ptr i 0) x h k:=by
  show Zp (h.get i) _ _
  rw [hg]
  show ck (ZQ x) (op' (Qy 0 [x] [v]) fun cs'=>ZL i (.cells mv T cs') h k)
  rw [hx,Qz]
  refine ⟨rfl,?_⟩
  show ZL i (.cells mv T [x]) h k
  rw [QZ]
  have hlt : i < h.next:=H.lt_of_live (by rw [hg]; rfl)
  obtain ⟨h',p⟩:=ZB (h:=h) (i:=i) (.cells mv T [x]) hlt hb
  exact ⟨h',p,hk h' p⟩
theorem app_ok {h : H} {v : AV} {L : List Str} {s : Str} {n9 : Nat} {k : AV → H → Prop} (hw : h.Wf) (hr : (L = [] ∧ v = .nils) ∨ ∃ b, L ≠ [] ∧ v = .slice b 0 L.length L.length 1 false ∧ h.get b = .cells (Nat.blt 1 L.length) 9 (L.map AV.str) ∧ h.base ≤ b)
    (h9 : h.get n9 = .cells false 9 [.str s]) (hl : L.length < 256) (hk : ∀ h' v',h'.next = h.next + 1→h'.base = h.base→(∀ id,id < h.next→h'.get id = h.get id ∨ v = .slice id 0 L.length L.length 1 false)→ZQ v' = true→Nk h' v' (L ++ [s])→k v' h') : apC 9 1 16 v (.slice n9 0 1 1 1 true) h k:=by
  unfold apC Qdg
  rw [Yl,h9,YL]
  show op' (some [AV.str s]) _
  rw [QF]
  refine ⟨_,rfl,?_⟩
  rcases hr with ⟨rfl,rfl⟩ | ⟨b,hne,rfl,hg,hb⟩
  · show ck (Nat.ble (Nat.mul 1 16) QR) (Qs (.cells false 9 [.str s]) h fun i h' => k (.slice i 0 1 1 1 false) h')
    rw [Qew 1 (by omega),Qz,QX]
    obtain ⟨h',p⟩:=Y6 h (.cells false 9 [.str s])
    obtain ⟨_,n',b',_,g⟩:=H.push_some p hw
    refine ⟨rfl,_,h',p,hk h' _ n' b' (fun id hi=>.inl (by rw [g,if_neg (by omega)])) rfl (.inr ⟨by simp,?_,?_⟩)⟩
    · rw [n',Nat.add_sub_cancel]; rfl
    · rw [n',Nat.add_sub_cancel,g,if_pos rfl]; rfl
  · rw [Yl, hg, YL, Zk, Zt]
    have hle : Nat.ble (Nat.add L.length 1) L.length = false:=by
      cases hc : Nat.ble (Nat.add L.length 1) L.length with
      | false=>rfl
      | true=>rw [Qv] at hc; have hc : L.length + 1 ≤ L.length:=hc; omega
    refine .inr ⟨hle,?_⟩
    rw [Qew (Nat.add L.length 1) (by show L.length + 1 < 257; omega),Qz]
    refine ⟨rfl,?_⟩
    have ht : Z1 (Nat.mul L.length 1) (Yg 0 (L.map AV.str)) = some (L.map AV.str):=by
      rw [WH,We]
      have : Nat.mul L.length 1 = L.length:=Nat.mul_one _
      rw [this,List.drop_zero,if_pos (by simp),List.take_of_length_le (by simp)]
    rw [ht,QF]
    refine ⟨_,rfl,?_⟩
    rw [DV,UE]
    show ck (Nat.beq 1 1) (ck (Nat.beq 9 9) (ck (ZN [.str s]) (ZL b .dead h fun h1=>Qs (.cells true 9 (L.map AV.str ++ [.str s])) h1 fun i h'=>k (.slice i 0 (Nat.add L.length 1) (Nat.add L.length 1) 1 false) h')))
    rw [Qz,Qz,Qz]
    refine ⟨rfl,rfl,rfl,?_⟩
    rw [QZ]
    have hlt : b < h.next:=H.lt_of_live (by rw [hg]; rfl)
    obtain ⟨h1,p1⟩:=ZB (h:=h) (i:=b) .dead hlt hb
    obtain ⟨_,_,n1,b1,g1⟩:=Q1 p1
    refine ⟨h1,p1,?_⟩
    rw [QX]
    obtain ⟨h',p⟩:=Y6 h1 (.cells true 9 (L.map AV.str ++ [.str s]))
    obtain ⟨_,n',b',_,g⟩:=H.push_some p ⟨by rw [n1,b1]; exact hw.low⟩
    refine ⟨_,h',p,hk h' _ (by omega) (by omega) (fun id hi=>?_) rfl (.inr ⟨by simp,?_,?_⟩)⟩
    · by_cases e : id = b
      · subst e; exact .inr rfl
      · left; rw [g,if_neg (by omega),g1,if_neg e]
    · rw [n',n1,Nat.add_sub_cancel,List.length_append]; rfl
    · rw [n', Nat.add_sub_cancel, g, if_pos rfl, List.map_append]
      have : Nat.blt 1 (L ++ [s]).length = true:=by
        rw [QP]; cases L with
        | nil=>exact absurd rfl hne
        | cons=>simp
      rw [this]; rfl
theorem round_ok {h : H} {N : Nat} {a1 v : AV} {L : List Str} {s : Str} {k : AV→H→Prop} (hw : h.Wf) (hN : h.base ≤ N) (hnx : N + 4 ≤ h.next) (hloop : h.get (N + 2) = .loop .ready none [7] (Wx Tryz.f320 0).1 (Wx Tryz.f320 0).2 (Wr N a1)) (hc : h.get N = .cells false 22 [v])
    (hr : Nk h v L) (hrow : L ≠ []→N + 4 < h.next) (hl : L.length < 256) (hk : ∀ h' v',h'.next = h.next + 2→h'.base = h.base→h'.get N = .cells false 22 [v']→Nk h' v' (L ++ [s])→(∀ id,id < N + 4→id ≠ N→h'.get id = h.get id)→k (.bool true) h') : Nd GY (.yield (N + 2)) [.str s] h k:=by
  show JV GY (N + 2) [.str s] h k
  unfold JV
  rw [hloop]
  show (Kk ty (YB J0 [] [] Zw)) _ _ (DL [7] [.str s] (Wr N a1)) [] h
  rw [asg_is]
  show (match h.get (N + 2) with | .loop .ready pend _ _ _ _=>_ | _=>False)
  rw [hloop]
  show Z7 (N + 2) .busy none h _
  unfold Z7
  rw [hloop]
  show ZL (N + 2) (.loop .busy none [7] (Wx Tryz.f320 0).1 (Wx Tryz.f320 0).2 (Wr N a1)) h _
  rw [QZ]
  obtain ⟨h1,p1⟩:=ZB (h:=h) (i:=N + 2) (.loop .busy none [7] (Wx Tryz.f320 0).1 (Wx Tryz.f320 0).2 (Wr N a1)) (by omega) (by omega)
  obtain ⟨_,_,n1,b1,g1⟩:=Q1 p1
  refine ⟨h1,p1,?_⟩
  show (Kk ty (YB J0 [] [] Zw)) _ _ _ [] h1
  rw [rnd_is,ldc (by rw [g1,if_neg (by omega)]; exact hc),QX]
  obtain ⟨h2,p2⟩:=Y6 h1 (.cells false 9 [.str s])
  obtain ⟨_,n2,b2,w2,g2⟩:=H.push_some p2 ⟨by rw [n1,b1]; exact hw.low⟩
  refine ⟨_,h2,p2,?_⟩
  refine app_ok (L:=L) w2 ?_ (by rw [g2,if_pos rfl]) hl fun h3 v' n3 b3 g3 hone hr3=>?_
  · rcases hr with hr | ⟨e1, e2, e3⟩
    · exact .inl hr
    · have := hrow e1
      exact .inr ⟨_,e1,e2,by rw [g2,if_neg (by omega),g1,if_neg (by omega)]; exact e3,by omega⟩
  have keep : ∀ id,id < N + 4→h3.get id = h1.get id:=fun id hi=>by
    rcases g3 id (by omega) with e | e
    · rw [e,g2,if_neg (by omega)]
    · exfalso
      rcases hr with ⟨_,e2⟩ | ⟨e1,e2,_⟩
      · rw [e2] at e; cases e
      · rw [e2] at e; injection e with e; have:=hrow e1; omega
  refine stc (by rw [keep N (by omega),g1,if_neg (by omega)]; exact hc) hone (by omega) fun h4 p4=>?_
  obtain ⟨_,_,n4,b4,g4⟩:=Q1 p4
  show Z7 (N + 2) .ready none h4 (k (.bool true))
  unfold Z7
  rw [g4,if_neg (by omega),keep _ (by omega),g1,if_pos rfl]
  show ZL (N + 2) (.loop .ready none [7] (Wx Tryz.f320 0).1 (Wx Tryz.f320 0).2 (Wr N a1)) h4 _
  rw [QZ]
  obtain ⟨h5,p5⟩:=ZB (h:=h4) (i:=N + 2) (.loop .ready none [7] (Wx Tryz.f320 0).1 (Wx Tryz.f320 0).2 (Wr N a1)) (by omega) (by omega)
  obtain ⟨_,_,n5,b5,g5⟩:=Q1 p5
  have hn5 : h5.next = h3.next:=by omega
  refine ⟨h5,p5,hk h5 v' (by omega) (by omega) (by rw [g5,if_neg (by omega),g4,if_pos rfl]) ?_ fun id hi hne=>?_⟩
  · rcases hr3 with hr3 | ⟨e1, e2, e3⟩
    · exact .inl hr3
    · exact .inr ⟨e1,by rw [hn5]; exact e2,by rw [hn5,g5,if_neg (by omega),g4,if_neg (by omega)]; exact e3⟩
  · rw [g5]
    split
    · rename_i e; rw [e,hloop]
    · rename_i e; rw [g4,if_neg hne,keep id hi,g1,if_neg e]
theorem Ga (k : H→Prop) (self : AV × AV × Unit→List Dfr→H→Prop) (y it : AV) (h : H) : VR k self (y,it,()) [] h = YV it h fun v8 h9=>Go.Am.asTup v8 fun l10=>op' (Zd l10 0) fun v11=>asB v11 fun b12=>br b12 (
    op' (ZV it h9) fun v13=>Go.Am.asTup v13 fun l14=>op' (Zd l14 0) fun v15=>asS v15 fun s16=>Nd GY y [.str s16] h9 fun v17 h18=>asB v17 fun b19=>fB (Bool.not b19) fun b20=>br b20 (k h18) (self (y,it,()) [] h18)) (k h9):=by
  kernel_rfl
def unstr : AV→Str
  | .str s=>s
  | _=>⟨0,0⟩
theorem perm_str {L l0 : List Str} (p : (L.map AV.str).Perm (l0.map AV.str)) : L.Perm l0:=by
  have:=p.map unstr
  simpa [List.map_map,Function.comp_def,unstr] using this
theorem loop250 {k : H → Prop} {m N : Nat} {a1 : AV} {es0 : List (AV × AV)} {es : List (AV × AV × Nat)} {clock : Nat} {l0 : List Str} {h0 : H} (hN : N = h0.next) (hm : m < N) (hbm : h0.base ≤ m) (h12 : l0.length ≤ 256) (hm0 : h0.get m = .smap es0) (hs : Z3 es0 es clock)
    (hkeys : es0.map (·.1) = l0.map AV.str)
    (hk : ∀ (L : List Str) (h2 : H) (v : AV),L.Perm l0→h2.next = N + 4 + 2 * L.length→h2.base = h0.base→h2.get (N + 1) = .defd true→h2.get (N + 2) = .loop .ready none [7] (Wx Tryz.f320 0).1 (Wx Tryz.f320 0).2 (Wr N a1)→h2.get N = .cells false 22 [v]→Nk h2 v L→(∀ id,id < N→h2.get id = h0.get id)→k h2) :
    ∀ (c j : Nat), c < j → ∀ (seen : List Nat) (h : H) (L : List Str) (v : AV), (rest seen es).length = c → h.get m = .amap es clock → h.get (N + 3) = .miter (some m) clock seen clock → h.get N = .cells false 22 [v] → Nk h v L → h.get (N + 1) = .defd true →
      h.get (N + 2) = .loop .ready none [7] (Wx Tryz.f320 0).1 (Wx Tryz.f320 0).2 (Wr N a1)→(∀ id,id < N→id ≠ m→h.get id = h0.get id)→h.next = N + 4 + 2 * L.length→h.base = h0.base→(L.map AV.str ++ (rest seen es).map (·.1)).Perm (l0.map AV.str) →
      ZW (VR k) j (.yield (N + 2),.ptr (N + 3) 0,()) [] h:=by
  intro c
  induction c with
  | zero =>
    intro j hj seen h L v hc hmp hit hcell hrow hd hlp hlow hnx hb hp
    obtain ⟨j,rfl⟩ : ∃ j',j = j' + 1:=⟨j - 1,by omega⟩
    show VR k (ZW (VR k) j) _ [] h
    rw [Ga]
    have hnil : rest seen es = []:=List.length_eq_zero_iff.1 hc
    have it : Iter m (N + 3) es0 es clock seen h:=⟨hmp,hit,hs⟩
    refine it.next (fun e he hse=>?_) fun _=>?_
    · have : e ∈ rest seen es := by unfold rest; rw [List.mem_filter]; exact ⟨he, by simpa using hse⟩
      rw [hnil] at this; cases this
    · obtain ⟨h1, p1⟩ := ZB (h := h) (i := m) (.smap es0) (by omega) (by omega)
      obtain ⟨_,_,n1,b1,g1⟩:=Q1 p1
      obtain ⟨h2,p2⟩:=ZB (h:=h1) (i:=N + 3) .dead (by omega) (by omega)
      obtain ⟨_,_,n2,b2,g2⟩:=Q1 p2
      refine ⟨h1,h2,p1,p2,?_⟩
      rw [Go.Am.asTup_iff]
      refine ⟨_,rfl,?_⟩
      show k h2
      rw [hnil,List.map_nil,List.append_nil] at hp
      have same : ∀ id,id ≠ m→id ≠ N + 3→h2.get id = h.get id:=fun id i1 i2=>by rw [g2,if_neg i2,g1,if_neg i1]
      have hn2 : h2.next = h.next:=by omega
      refine hk L h2 v (perm_str hp) (by omega) (by omega) (by rw [same _ (by omega) (by omega)]; exact hd) (by rw [same _ (by omega) (by omega)]; exact hlp) (by rw [same _ (by omega) (by omega)]; exact hcell) ?_ fun id hi=>?_
      · rcases hrow with hr | ⟨e1, e2, e3⟩
        · exact .inl hr
        · have : 0 < L.length := List.length_pos_iff.2 e1
          exact .inr ⟨e1,by rw [hn2]; exact e2,by rw [hn2,same _ (by omega) (by omega)]; exact e3⟩
      · by_cases e : id = m
        · subst e; rw [g2,if_neg (by omega),g1,if_pos rfl,hm0]
        · rw [same id e (by omega)]; exact hlow id hi e
  | succ c ih =>
    intro j hj seen h L v hc hmp hit hcell hrow hd hlp hlow hnx hb hp
    obtain ⟨j,rfl⟩ : ∃ j',j = j' + 1:=⟨j - 1,by omega⟩
    show VR k (ZW (VR k) j) _ [] h
    rw [Ga]
    have it : Iter m (N + 3) es0 es clock seen h:=⟨hmp,hit,hs⟩
    refine it.next (fun e he hse=>?_) fun hall=>?_
    · obtain ⟨h1, p1⟩ := ZB (h := h) (i := N + 3) (.miter (some m) clock (seen ++ [e.2.2]) clock) (by omega) (by omega)
      obtain ⟨_,_,n1,b1,g1⟩:=Q1 p1
      refine ⟨h1,p1,?_⟩
      have hpe:=J2 hs.stamps he hse
      have hkey : e.1 ∈ l0.map AV.str:=by
        rw [← hkeys,List.mem_map]
        exact ⟨(e.1,e.2.1),hs.perm.mem_iff.1 (List.mem_map.2 ⟨e,he,rfl⟩),rfl⟩
      obtain ⟨s,hsl,hse1⟩:=List.mem_map.1 hkey
      have hp2 : ((L ++ [s]).map AV.str ++ (rest (seen ++ [e.2.2]) es).map (·.1)).Perm (l0.map AV.str):=by
        refine .trans ?_ hp
        rw [List.map_append,List.append_assoc]
        refine .append_left _ ?_
        have:=(hpe.map (·.1)).symm
        rw [List.map_cons,← hse1] at this
        exact this
      have hlen : L.length < 256:=by
        have:=hp2.length_eq
        simp only [List.length_append,List.length_map,List.length_cons,List.length_nil] at this
        omega
      rw [Go.Am.asTup_iff]
      refine ⟨_,rfl,?_⟩
      show op' (ZV (.ptr (N + 3) 0) h1) _
      rw [QF]
      refine ⟨_,(it.step p1).entry he,?_⟩
      rw [Go.Am.asTup_iff]
      refine ⟨_,rfl,?_⟩
      show asS e.1 _
      rw [← hse1,W5]
      have same1 : ∀ id,id ≠ N + 3→h1.get id = h.get id:=fun id i=>by rw [g1,if_neg i]
      refine round_ok (L:=L) (v:=v) (a1:=a1) ⟨by omega⟩ (by omega) (by omega) (by rw [same1 _ (by omega)]; exact hlp) (by rw [same1 _ (by omega)]; exact hcell) ?_ (fun e1=>by have : 0 < L.length:=List.length_pos_iff.2 e1; omega) hlen fun h' v' hn' hb' hc' hr' hs'=>?_
      · rcases hrow with hr | ⟨e1, e2, e3⟩
        · exact .inl hr
        · have : 0 < L.length := List.length_pos_iff.2 e1
          exact .inr ⟨e1,by rw [n1]; exact e2,by rw [n1,same1 _ (by omega)]; exact e3⟩
      rw [Vs,Qk,Bool.not_true,X8]
      refine ih j (by omega) (seen ++ [e.2.2]) h' (L ++ [s]) v' (by have:=hpe.length_eq; simp at this; omega) (by rw [hs' _ (by omega) (by omega),same1 _ (by omega)]; exact hmp) (by rw [hs' _ (by omega) (by omega),g1,if_pos rfl]) hc' hr'
        (by rw [hs' _ (by omega) (by omega),same1 _ (by omega)]; exact hd) (by rw [hs' _ (by omega) (by omega),same1 _ (by omega)]; exact hlp) (fun id hi hne=>by rw [hs' _ (by omega) (by omega),same1 _ (by omega)]; exact hlow id hi hne) ?_ (by omega) hp2
      rw [List.length_append,hn',n1,hnx]; show _ = N + 4 + 2 * (L.length + 1); omega
    · rw [XD hall] at hc; cases hc
theorem ldP_eq1 {p : AV} {h : H} {k : AV→Prop} (q : ldP p h k) : ∃ v,(∀ k' : AV→Prop,ldP p h k' = k' v) ∧ k v:=by
  have q2:=q
  unfold ldP at q; rw [Go.Am.asPtr_iff] at q
  obtain ⟨i,o,rfl,q⟩:=q
  obtain ⟨v,h1,h2⟩:=Go.Am.ldV_eq (ND q2)
  exact ⟨v,h1,h2⟩
theorem ldP_same {h h' : H} {p : AV} {k : AV→Prop} (hs : ∀ id,id < h.next→h'.get id = h.get id) (q : ldP p h k) : ldP p h' k:=by
  unfold ldP at q ⊢
  rw [Go.Am.asPtr_iff] at q ⊢
  obtain ⟨i,o,e,q⟩:=q
  refine ⟨i,o,e,?_⟩
  have hl : i < h.next:=by
    refine H.lt_of_live ?_
    rw [Q3] at q
    rcases q with ⟨_,_,_,q,_⟩ | ⟨_,_,_,_,q,_⟩ <;> (rw [q]; rfl)
  rw [hs i hl]; exact q
theorem rf55_is (a1 : AV) (n1 : Nat) (h : H) (k : AV→H→Prop) (p : AV) (ha : a1 = .func (.func 250) [] [p]) : Qdi .nils a1 h k = Qs (.cells false 22 [.nils]) h fun n1 h=>Qs (.defd true) h fun id0 h=>Qs (.loop .ready none [7] (Wx Tryz.f320 0).1 (Wx Tryz.f320 0).2 (Wr n1 a1)) h fun id1 h=>
    Wa (.yield id1) p h fun h=>endR id0 id1 (fun ds h=>ldV (.ptr n1 0) h fun v7=>Qr (YB J0 [] [(250,Nl Wa)] Zw) ds h fun h=>k v7 h) (fun ds h=>Qr (YB J0 [] [(250,Nl Wa)] Zw) ds h fun h=>k .nils h) (fun i ds h=>exB (Nat.beq i 0) (fun ds h=>ldV (.ptr n1 0) h fun v7=>Qr (YB J0 [] [(250,Nl Wa)] Zw) ds h fun h=>k v7 h) (fun _ _=>False) ds h) [] h:=by
  subst ha
  kernel_rfl
theorem endR_none {id0 id1 : Nat} {norm ret : List Dfr→H→Prop} {ex : Nat→List Dfr→H→Prop} {ds : List Dfr} {h : H} {ps : List Nat} {a b : Code} {env : List AV} (hg : h.get id1 = .loop .ready none ps a b env) (q : ZL id1 (.loop .exhausted none ps a b env) h fun h'=>norm (.coll id0 :: ds) h') : endR id0 id1 norm ret ex ds h:=by
  unfold endR
  simp only [hg]
  unfold Z7
  simp only [hg]
  exact q
theorem leave_coll {G : Gam} {id : Nat} {h : H} {k : H→Prop} (hg : h.get id = .defd true) (q : ZL id (.defd false) h k) : Qr G [.coll id] h k:=by
  unfold Qr
  simp only [hg]
  exact q
theorem s320_ok {h : H} {m : Nat} {p : AV} {es : List (AV × AV)} {l0 : List Str} {k : AV→H→Prop} (hw : h.Wf) (hld : ldP p h fun v=>v = .map m) (hg : h.get m = .smap es) (hbm : h.base ≤ m) (hkeys : es.map (·.1) = l0.map AV.str) (h12 : l0.length ≤ 256)
    (hk : ∀ (L : List Str) (h' : H) (v : AV),L.Perm l0→h'.next = h.next + 4 + 2 * L.length→h'.base = h.base→(∀ id,id < h.next→h'.get id = h.get id)→Nk h' v L→k v h') : Qdi .nils (.func (.func 250) [] [p]) h k:=by
  rw [rf55_is _ 0 h k p rfl,QX]
  have hwl:=hw.low
  have hml : m < h.next:=H.lt_of_live (by rw [hg]; rfl)
  obtain ⟨h1,p1⟩:=Y6 h (.cells false 22 [.nils])
  obtain ⟨_,n1,b1,w1,g1⟩:=H.push_some p1 hw
  refine ⟨_,h1,p1,?_⟩
  rw [QX]
  obtain ⟨h2,p2⟩:=Y6 h1 (.defd true)
  obtain ⟨_,n2,b2,w2,g2⟩:=H.push_some p2 w1
  refine ⟨_,h2,p2,?_⟩
  rw [QX]
  generalize ha1 : AV.func (.func 250) [] [p] = a1
  obtain ⟨h3,p3⟩:=Y6 h2 (.loop .ready none [7] (Wx Tryz.f320 0).1 (Wx Tryz.f320 0).2 (Wr h.next a1))
  obtain ⟨_,n3,b3,w3,g3⟩:=H.push_some p3 w2
  refine ⟨_,h3,p3,?_⟩
  have low3 : ∀ id,id < h.next→h3.get id = h.get id:=fun id hi=>by rw [g3,if_neg (by omega),g2,if_neg (by omega),g1,if_neg (by omega)]
  rw [s250_is]
  obtain ⟨v,hv1,hv2⟩:=Go.Am.ldV_eq (ND (ldP_same low3 hld))
  rw [hv1]; subst hv2
  unfold Z9
  simp only [low3 m hml,hg]
  intro es' clock hs
  obtain ⟨h4,p4⟩:=ZB (h:=h3) (i:=m) (.amap es' clock) (by omega) (by omega)
  obtain ⟨_,_,n4,b4,g4⟩:=Q1 p4
  obtain ⟨h5,p5⟩:=Y6 h4 (.miter (some m) clock [] clock)
  obtain ⟨_,n5,b5,_,g5⟩:=H.push_some p5 ⟨by rw [n4,b4]; exact w3.low⟩
  simp only [p4,p5]
  rw [J0.lp_ok]
  have e1 : h2.next = h.next + 2:=by omega
  have e2 : h4.next = h.next + 3:=by omega
  have e3 : h1.next = h.next + 1:=by omega
  rw [e1,e2,e3]
  refine loop250 (h0:=h) (N:=h.next) (a1:=a1) (es0:=es) (es:=es') (clock:=clock) (l0:=l0) rfl hml hbm h12 hg hs hkeys ?_ es'.length fuel ?_ [] h5 [] .nils (by rw [Vg]) ?_ ?_ ?_ (.inl ⟨rfl,rfl⟩) ?_ ?_ (fun id hi hne=>?_) (by simp; omega) (by omega) ?_
  · intro L h6 v hp hn6 hb6 hd6 hl6 hc6 hr6 hlow6
    refine endR_none hl6 ?_
    rw [QZ]
    obtain ⟨h7,p7⟩:=ZB (h:=h6) (i:=h.next + 2) (.loop .exhausted none [7] (Wx Tryz.f320 0).1 (Wx Tryz.f320 0).2 (Wr h.next a1)) (by omega) (by omega)
    obtain ⟨_,_,n7,b7,g7⟩:=Q1 p7
    refine ⟨h7,p7,?_⟩
    rw [ldc (by rw [g7,if_neg (by omega)]; exact hc6)]
    refine leave_coll (by rw [g7,if_neg (by omega)]; exact hd6) ?_
    rw [QZ]
    obtain ⟨h8,p8⟩:=ZB (h:=h7) (i:=h.next + 1) (.defd false) (by omega) (by omega)
    obtain ⟨_,_,n8,b8,g8⟩:=Q1 p8
    refine ⟨h8,p8,?_⟩
    have hn8 : h8.next = h6.next:=by omega
    refine hk L h8 v hp (by omega) (by omega) (fun id hi=>by rw [g8,if_neg (by omega),g7,if_neg (by omega)]; exact hlow6 id hi) ?_
    rcases hr6 with hr | ⟨q1,q2,q3⟩
    · exact .inl hr
    · have : 0 < L.length := List.length_pos_iff.2 q1
      exact .inr ⟨q1,by rw [hn8]; exact q2,by rw [hn8,g8,if_neg (by omega),g7,if_neg (by omega)]; exact q3⟩
  · have hl := congrArg List.length hkeys
    have:=hs.length
    simp at hl
    unfold fuel; omega
  · rw [g5,if_neg (by omega),g4,if_pos rfl]
  · rw [g5,if_pos (by omega)]
  · rw [g5,if_neg (by omega),g4,if_neg (by omega),g3,if_neg (by omega),g2,if_neg (by omega),g1,if_pos rfl]
  · rw [g5,if_neg (by omega),g4,if_neg (by omega),g3,if_neg (by omega),g2,if_pos (by omega)]
  · rw [g5,if_neg (by omega),g4,if_neg (by omega),g3,if_pos (by omega)]
  · rw [g5,if_neg (by omega),g4,if_neg hne]; exact low3 id hi
  · rw [Vg]
    have:=hs.perm.map (·.1)
    rw [List.map_map,hkeys] at this
    exact this
def keyL (es : List (AV × AV)) : (List Str→Prop)→Prop:=List.rec (motive:=fun _=>(List Str→Prop)→Prop) (fun k=>k []) (fun e _ ih k=>asS e.1 fun s=>ih fun l=>k (s :: l)) es
def Qbc (l : List Str) : (List AV→Prop)→Prop:=List.rec (motive:=fun _=>(List AV→Prop)→Prop) (fun k=>k []) (fun s _ ih k=>ih fun l=>k (.str s :: l)) l
def JI (a : Str) (t : List Str) : Bool:=List.rec (motive:=fun _=>Bool) true (fun b _ ih=>Bool.rec (motive:=fun _=>Bool) false (Bool.rec (motive:=fun _=>Bool) ih false (Str.lt b a)) (Str.lt a b)) t
def QaV (l : List Str) : Bool:=List.rec (motive:=fun _=>Bool) true (fun a t ih=>Bool.rec (motive:=fun _=>Bool) false ih (JI a t)) l
def Vk (c : Nat) : H→(H→Prop)→Prop:=Nat.rec (motive:=fun _=>H→(H→Prop)→Prop) (fun h k=>k h) (fun _ ih h k=>Qs .dead h fun _ h'=>ih h' k) c
theorem DZ : ∀ {es : List (AV × AV)} {k : List Str→Prop},keyL es k→∃ l,es.map (·.1) = l.map AV.str ∧ k l
  | [],k,q=>⟨[],rfl,q⟩
  | e :: es, k, q => by
    have q : asS e.1 fun s=>keyL es fun l=>k (s :: l):=q
    rw [QI] at q
    obtain ⟨s,hs,q⟩:=q
    obtain ⟨l,hl,q⟩:=DZ q
    exact ⟨s :: l,by rw [List.map_cons,List.map_cons,hs,hl],q⟩
theorem Dx : ∀ (l : List Str) (k : List AV→Prop),Qbc l k = k (l.map AV.str)
  | [],k=>rfl
  | s :: l,k=>by show (Qbc l fun l=>k (.str s :: l)) = _; rw [Dx]; rfl
theorem KM {a : Str} : ∀ {t : List Str}, JI a t = true → ∀ b ∈ t, Bef a b
  | [],_=>by simp
  | b :: t, h => by
    have h : (Bool.rec (motive:=fun _=>Bool) false (Bool.rec (motive:=fun _=>Bool) (JI a t) false (Str.lt b a)) (Str.lt a b)) = true:=h
    cases h1 : Str.lt a b with
    | false=>rw [h1] at h; cases h
    | true =>
      rw [h1] at h
      cases h2 : Str.lt b a with
      | true=>rw [h2] at h; cases h
      | false =>
        rw [h2] at h
        intro c hc
        rcases List.mem_cons.1 hc with rfl | hc
        · exact ⟨h1,h2⟩
        · exact KM h c hc
theorem Gb : ∀ {l : List Str},QaV l = true→l.Pairwise Bef
  | [],_=>.nil
  | a :: t, h => by
    have h : (Bool.rec (motive:=fun _=>Bool) false (QaV t) (JI a t)) = true:=h
    cases h1 : JI a t with
    | false=>rw [h1] at h; cases h
    | true=>rw [h1] at h; exact List.pairwise_cons.2 ⟨KM h1,Gb h⟩
theorem VE : ∀ {c : Nat} {h : H} {k : H→Prop},h.Wf→Vk c h k→∃ h',h'.next = h.next + c ∧ h'.base = h.base ∧ h'.Wf ∧ (∀ id,id < h.next→h'.get id = h.get id) ∧ (∀ id,h.next ≤ id→h'.get id = .dead) ∧ k h'
  | 0,h,k,hw,q=>⟨h,rfl,rfl,hw,fun _ _=>rfl,fun id hi=>H.get_of_le hi,q⟩
  | c + 1, h, k, hw, q => by
    have q : Qs .dead h fun _ h'=>Vk c h' k:=q
    rw [QX] at q
    obtain ⟨_,h1,p1,q⟩:=q
    obtain ⟨_,n1,b1,w1,g1⟩:=H.push_some p1 hw
    obtain ⟨h',e1,e2,e3,e4,e5,e6⟩:=VE w1 q
    refine ⟨h',by omega,by omega,e3,fun id hi=>by rw [e4 id (by omega),g1,if_neg (by omega)],fun id hi=>?_,e6⟩
    by_cases e : id = h.next
    · subst e; rw [e4 _ (by omega),g1,if_pos rfl]
    · exact e5 id (by omega)
def seqK (a : AV) (k : AV→Prop) : Prop :=
  match a with
  | .func (.func f) [] [p]=>ck (Nat.beq f 250) (k p)
  | _=>False
def GB (v : AV) (h : H) (k : Nat→List (AV × AV)→Prop) : Prop :=
  match v with
  | .map id => match h.get id with
    | .smap es=>k id es
    | _=>False
  | _=>False
theorem GA {v : AV} {h : H} {k : Nat→List (AV × AV)→Prop} (e : GB v h k) : ∃ id es,v = .map id ∧ h.get id = .smap es ∧ k id es:=by
  unfold GB at e
  split at e
  · rename_i id
    split at e
    · rename_i es hg; exact ⟨id,es,rfl,hg,e⟩
    · exact e.elim
  · exact e.elim
theorem seqK_imp {a : AV} {k : AV→Prop} (q : seqK a k) : ∃ p,a = .func (.func 250) [] [p] ∧ k p:=by
  unfold seqK at q
  split at q
  · rename_i f p
    rw [Qz,Nat.beq_eq] at q
    obtain ⟨rfl,q⟩:=q
    exact ⟨p,rfl,q⟩
  · exact q.elim
def Qen (a0 : AV) (h : H) (k : AV→H→Prop) : Prop :=
  seqK a0 fun p=>ldP p h fun v=>GB v h fun m es=>ck (Nat.ble h.base m) (ck (Nat.ble h.base h.next) (keyL es fun l=>fN l.length fun n=>ck (Nat.ble n 12) (ck (QaV l) (
    Nat.rec (motive:=fun _=>Prop) (Vk 4 h fun h1=>k .nils h1) (fun n' _=>fN (Nat.add 3 (Nat.mul 2 (Nat.succ n'))) fun c=>Vk c h fun h1=>Qbc l fun cs=>fB (Nat.blt 1 (Nat.succ n')) fun mv=>Qs (.cells mv 9 cs) h1 fun i h2=>k (.slice i 0 (Nat.succ n') (Nat.succ n') 1 false) h2) n))))
theorem s174_is (a0 : AV) (h : H) (k : AV→H→Prop) : Qem J0 s248 Nr a0 h k = Qdi .nils a0 h fun v h1=>Nr v h1 fun h3=>k v h3:=rfl
theorem s174'_imp {a0 : AV} {h : H} {k : AV → H → Prop} (q : Qen a0 h k) : Qem J0 s248 Nr a0 h fun r h1 => ∃ h2, Deader h.next h1 h2 ∧ k r h2 := by
  unfold Qen at q
  obtain ⟨p,rfl,q⟩:=seqK_imp q
  obtain ⟨v,hv1,q⟩:=ldP_eq1 q
  obtain ⟨m,es,rfl,hg,q⟩:=GA q
  rw [Qz,Qz,Qv,Qv] at q
  obtain ⟨hbm,hwf,q⟩:=q
  obtain ⟨l0,hkeys,q⟩:=DZ q
  rw [Zk,Qz,Qz,Qv] at q
  obtain ⟨h12,hbef,q⟩:=q
  have hl0:=Gb hbef
  rw [s174_is]
  refine s320_ok (es:=es) (l0:=l0) ⟨hwf⟩ (by rw [hv1]) hg hbm hkeys (by omega) fun L h' v hp hn' hb' hlow hrow=>?_
  have hlen:=hp.length_eq
  rcases hrow with ⟨rfl,rfl⟩ | ⟨hne,rfl,hr⟩
  · have hl : l0 = [] := List.length_eq_zero_iff.1 (by rw [← hlen]; rfl)
    subst hl
    rw [s249_nil]
    have q : Vk 4 h fun h1=>k .nils h1:=q
    obtain ⟨h1,e1,e2,e3,e4,e5,e6⟩:=VE ⟨hwf⟩ q
    exact ⟨h1,⟨by rw [e1,hn']; simp,by omega,fun id hi=>by rw [e4 id hi,hlow id hi],fun id hi=>.inr (.inl (e5 id hi))⟩,e6⟩
  · have hpos : 0 < L.length := List.length_pos_iff.2 hne
    rw [s249_is (by omega)]
    refine s366_ok hl0 hp hlen (by omega) hr (by omega) fun h3 a3=>?_
    obtain ⟨n',hn⟩ : ∃ n',l0.length = Nat.succ n':=⟨l0.length - 1,by show l0.length = l0.length - 1 + 1; omega⟩
    rw [hn] at q
    have q : fN (Nat.add 3 (Nat.mul 2 (Nat.succ n'))) fun c=>Vk c h fun h1=>Qbc l0 fun cs=>fB (Nat.blt 1 (Nat.succ n')) fun mv=>Qs (.cells mv 9 cs) h1 fun i h2=>k (.slice i 0 (Nat.succ n') (Nat.succ n') 1 false) h2:=q
    rw [Zk] at q
    obtain ⟨h1,e1,e2,e3,e4,e5,q⟩:=VE ⟨hwf⟩ q
    rw [Dx,Qk,QX] at q
    obtain ⟨i,h2,p2,q⟩:=q
    obtain ⟨ei,n2,b2,_,g2⟩:=H.push_some p2 e3
    have e1 : h1.next = h.next + (3 + 2 * (n' + 1)):=e1
    have hn1 : l0.length = n' + 1:=hn
    have hLn : L.length = Nat.succ n':=by omega
    have hi : i = h'.next - 1:=by omega
    subst hi
    rw [hLn]
    refine ⟨h2,⟨by rw [n2,e1,a3.next,hn']; omega,by rw [b2,e2,a3.base,hb'],fun id hid=>?_,fun id hid=>?_⟩,q⟩
    · rw [g2,if_neg (by omega),e4 id hid,a3.same id (by omega),hlow id hid]
    · by_cases e : id = h1.next
      · subst e
        left
        rw [g2,if_pos rfl,← ei,a3.row,hLn]
      · right; left
        rw [g2,if_neg e]; exact e5 id hid
def g174' : Fun:=w174 Qen
theorem g174'_ok : Qe Tryz.prog 174 g174' :=
  (Qf Qi Qj (Qg (J:=J0) (Qa g248_ok (Qa g249_ok (Qc Qd)))) Tryz.func174 (fun args w=>by simp)).deader fun xs h k _ e0=>by
    obtain ⟨a0,xs0,rfl,e1⟩:=Qp e0
    obtain ⟨rfl,e2⟩:=Qt e1
    exact (s174_eq J0 s248 Nr a0 h _).mpr (s174'_imp e2)
end Go.Proofs.YtodlaigjjknpkaaGreatDoor
