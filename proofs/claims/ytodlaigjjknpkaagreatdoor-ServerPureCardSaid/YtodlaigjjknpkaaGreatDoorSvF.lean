import Derived.Test.YtodlaigjjknpkaaGreatDoorSvC
noncomputable section
namespace Go.Proofs.YtodlaigjjknpkaaGreatDoor
open Go Go.Am
set_option linter.all false
set_option maxRecDepth 100000
theorem zA : (∀ (j : AV→H→Prop) b,J0.jn j b = b j) ∧ (∀ (j : Bool→AV→Prop) b,J0.jb j b = b j) ∧ (∀ a b,br true a b = a) ∧ (∀ a b,br false a b = b) ∧ (∀ a b k,Qo (.bool true) a b k = asB a k) ∧ (∀ a b k,Qo (.bool false) a b k = asB b k) ∧
    (∀ b k,asB (.bool b) k = k b) ∧ (∀ b k n,QH (.bool b) k n = k b) ∧ (∀ kk n k,asI kk (.int kk n) k = k n) ∧ (∀ s k,asS (.str s) k = k s) ∧ ∀ k n,QH Qb k n = n :=
  ⟨jn_is,jb_is,WR,Wi,pickB_t,pickB_f,Vs,asBU_bool,QQ,W5,asBU_skip⟩
theorem zB : (!true) = false ∧ (!false) = true:=⟨rfl,rfl⟩
theorem zC : (∀ (α : Type) (j : α→List Dfr→H→Prop) b,J0.jd j b = b j) ∧ (∀ n k,fI n k = k n) ∧ (∀ b h k,Qs b h k = k h.next (Qh h b)) ∧ ∀ l k,Go.Am.asAgg (.agg l) k = k l:=⟨fun _=>Yv,Qn,Qw,QJ⟩
def kLt (a b : List UInt8) : Bool:=Str.lt (Str.of a) (Str.of b)
def neB (k : List UInt8) : Bool:=!(Str.beq (Str.of k) ⟨0,0⟩)
def usB (k : List UInt8) : Bool:=usr (Str.of k)
def Gg (ks : List (List UInt8)) : Prop:=∀ (i j : Nat) (h : i < ks.length) (e : i = j + 1),kLt ks[j] ks[i] = true
def QfM (P : List UInt8→Bool) (ks : List (List UInt8)) : Prop:=∀ (i : Nat) (h : i < ks.length),P ks[i] = true
open Classical in
def Qa2 (ks : List (List UInt8)) : Bool:=decide (Gg ks)
open Classical in
def Gv (P : List UInt8→Bool) (ks : List (List UInt8)) : Bool:=decide (QfM P ks)
def Gt (P : List UInt8→Bool) (ks : List (List UInt8)) : Bool:=Gv P ks && Qa2 ks
theorem JM {ks : List (List UInt8)} : Qa2 ks = true ↔ Gg ks:=by unfold Qa2; simp
theorem Up {P : List UInt8→Bool} {ks : List (List UInt8)} : Gv P ks = true ↔ QfM P ks:=by unfold Gv; simp
theorem X0 {P : List UInt8→Bool} {ks : List (List UInt8)} : Gt P ks = true ↔ QfM P ks ∧ Gg ks:=by unfold Gt; rw [Bool.and_eq_true,JM,Up]
theorem Yj {b : Bool} (h : b = true→False) : b = false:=by cases b; rfl; exact (h rfl).elim
def YJ (ks : List (List UInt8)) : Int:=cond (ltI (Int.ofNat 15) (Int.ofNat ks.length)) (Int.ofNat 3) (cond (Gv neB ks) (cond (Qa2 ks) (Int.ofNat 0) (Int.ofNat 10)) (Int.ofNat 2))
theorem Xb {α : Type} {body : (α → List Dfr → H → Prop) → α → List Dfr → H → Prop} {ks : List (List UInt8)} (P : List UInt8 → Bool) (w : Nat → α) {h : H} (hn : ks.length ≤ 1000000)
    (hb : ∀ i (hi : i < ks.length) self,(∀ j (e : i = j + 1),P ks[i] = true→kLt ks[j] ks[i] = true→self (w (i + 1)) [] h)→(i = 0→P ks[i] = true→self (w (i + 1)) [] h) →
      (P ks[i] = false→Gt P ks = false)→(∀ j (e : i = j + 1),kLt ks[j] ks[i] = false→Gt P ks = false)→body self (w i) [] h)
    (hl : ∀ self,Gt P ks = true→body self (w ks.length) [] h) : J0.lp body (w 0) [] h:=by
  refine Yx ks.length (fun i x h'=>x = w i ∧ h' = h ∧ ∀ (i' : Nat) (hi' : i' < ks.length),i' < i→P ks[i'] = true ∧ ∀ (j : Nat) (e : i' = j + 1),kLt ks[j] ks[i'] = true) (by omega) ?_ ?_ ⟨rfl,rfl,fun i' _ h=>absurd h (Nat.not_lt_zero _)⟩
  · rintro i x h' self hi ⟨rfl, rfl, hp⟩ hs
    refine hb i hi self (fun j e h1 h2=>hs _ _ ⟨rfl,rfl,fun i' hi' hlt=>?_⟩) (fun e h1=>hs _ _ ⟨rfl,rfl,fun i' hi' hlt=>?_⟩) (fun h1=>Yj fun g=>?_) (fun j e h1=>Yj fun g=>?_)
    · by_cases h3 : i' < i
      · exact hp i' hi' h3
      · obtain rfl : i' = i := by omega
        exact ⟨h1, fun j' e' => by obtain rfl : j = j' := by omega
                                   exact h2⟩
    · obtain rfl : i' = i := by omega
      exact ⟨h1,fun j' e'=>by omega⟩
    · rw [(X0.1 g).1 i hi] at h1; cases h1
    · rw [(X0.1 g).2 i j hi e] at h1; cases h1
  · rintro x h' self ⟨rfl, rfl, hp⟩
    exact hl self (X0.2 ⟨fun i' hi'=>(hp i' hi' hi').1,fun i' j hi' e=>(hp i' hi' hi').2 j e⟩)
section
variable {K : Int→H→Prop} {KB : Bool→H→Prop} {h : H} {v : AV} {ks : List (List UInt8)}
theorem rd (q : QY h v ks) {i : Nat} (hi : i < ks.length) : ∃ p,(∀ (kk : IntKind) (k : AV→Prop),ixK 1 v (.int kk (Int.ofNat i)) k = k p) ∧ ∀ k : Str→Prop,ldS p h k = k (Str.of ks[i]):=by
  obtain ⟨p,p1,p2⟩:=q.rdS hi
  exact ⟨p,p1,fun k=>p2 h k fun _ _=>rfl⟩
theorem t84 (q : QY h v ks) (hl : ks.length ≤ 1000000) (hk : KB (Gt neB ks) h) : s84G J0 v h KB := by
  unfold s84G
  rw [q.len]
  refine Xb neB (fun i=>(v,v,AV.int .i64 (Int.ofNat ks.length),AV.int .i64 (Int.ofNat i),())) hl ?_ ?_
  · intro i hi self s1 s2 s3 s4
    obtain ⟨p,p1,p2⟩:=rd q hi
    simp only [QQ,Qk,Qn,Q0 hi,WR,p1,p2]
    cases h1 : Str.beq (Str.of ks[i]) ⟨0,0⟩
    · have hP : neB ks[i] = true := by unfold neB; rw [h1]; rfl
      cases i with
      | zero =>
        (simp only [↓zA,Qk,Qn,zB,Q5 (Nat.le_refl 0)])
        rw [Zn 0 (by omega)]
        exact s2 rfl hP
      | succ j =>
        obtain ⟨p',p3,p4⟩:=rd q (i:=j) (by omega)
        (simp only [↓zA,Qk,Qn,zB,Q0 (Nat.zero_lt_succ j),JF j (by omega),p3,p4])
        cases h2 : Str.lt (Str.of ks[j]) (Str.of ks[j + 1])
        · (simp only [↓zA, Qk, Qn, zB])
          have e:=s4 j rfl h2
          rw [e] at hk; exact hk
        · (simp only [↓zA, Qk, Qn, zB])
          rw [Zn (j + 1) (by omega)]
          exact s1 j rfl hP h2
    · (simp only [↓zA, Qk, Qn, zB])
      have e:=s3 (by unfold neB; rw [h1]; rfl)
      rw [e] at hk; exact hk
  · intro self hg
    simp only [QQ,Qk,Qn,Q5 (Nat.le_refl ks.length),Wi]
    rw [hg] at hk; exact hk
theorem t145 (q : QY h v ks) (hl : ks.length ≤ 1000000) (hk : KB (Gt neB ks && ltI (Int.ofNat 0) (Int.ofNat ks.length)) h) : Qbn J0 v h KB := by
  unfold Qbn
  refine Xb neB (fun i=>(v,AV.int .i64 (Int.ofNat i),())) hl ?_ ?_
  · intro i hi self s1 s2 s3 s4
    obtain ⟨p,p1,p2⟩:=rd q hi
    simp only [QQ,Qk,Qn,q.len,Q0 hi,WR,p1,p2]
    cases h1 : Str.beq (Str.of ks[i]) ⟨0,0⟩
    · have hP : neB ks[i] = true := by unfold neB; rw [h1]; rfl
      cases i with
      | zero =>
        (simp only [↓zA,Qk,Qn,zB,Q5 (Nat.le_refl 0)])
        rw [Zn 0 (by omega)]
        exact s2 rfl hP
      | succ j =>
        obtain ⟨p',p3,p4⟩:=rd q (i:=j) (by omega)
        (simp only [↓zA,Qk,Qn,zB,Q0 (Nat.zero_lt_succ j),JF j (by omega),p1,p2,p3,p4])
        cases h2 : Str.lt (Str.of ks[j]) (Str.of ks[j + 1])
        · (simp only [↓zA, Qk, Qn, zB])
          have e:=s4 j rfl h2
          rw [e] at hk; exact hk
        · (simp only [↓zA, Qk, Qn, zB])
          rw [Zn (j + 1) (by omega)]
          exact s1 j rfl hP h2
    · (simp only [↓zA, Qk, Qn, zB])
      have e:=s3 (by unfold neB; rw [h1]; rfl)
      rw [e] at hk; exact hk
  · intro self hg
    simp only [QQ,Qk,Qn,q.len,Q5 (Nat.le_refl ks.length),Wi]
    rw [hg] at hk; exact hk
def WT (ks : List (List UInt8)) : Bool:=Gt usB ks && (!(ltI (Int.ofNat ks.length) (Int.ofNat 1)) && !(ltI (Int.ofNat 24) (Int.ofNat ks.length)))
theorem t47 (q : QY h v ks) (hl : ks.length ≤ 1000000) (hk : KB (WT ks) h) : s47G J0 Jo v h KB := by
  unfold s47G
  rw [q.len]
  refine Xb usB (fun i=>(v,v,AV.int .i64 (Int.ofNat ks.length),AV.int .i64 (Int.ofNat i),())) hl ?_ ?_
  · intro i hi self s1 s2 s3 s4
    obtain ⟨p,p1,p2⟩:=rd q hi
    simp only [QQ,Qk,Qn,Q0 hi,WR,p1,p2,Jo]
    cases h1 : usr (Str.of ks[i])
    · (simp only [↓zA, Qk, Qn, zB])
      have e:=s3 h1
      unfold WT at hk
      rw [e] at hk; exact hk
    · cases i with
      | zero =>
        (simp only [↓zA,Qk,Qn,zB,Q5 (Nat.le_refl 0)])
        rw [Zn 0 (by omega)]
        exact s2 rfl h1
      | succ j =>
        obtain ⟨p',p3,p4⟩:=rd q (i:=j) (by omega)
        (simp only [↓zA,Qk,Qn,zB,Q0 (Nat.zero_lt_succ j),JF j (by omega),p3,p4])
        cases h2 : Str.lt (Str.of ks[j]) (Str.of ks[j + 1])
        · (simp only [↓zA, Qk, Qn, zB])
          have e:=s4 j rfl h2
          unfold WT at hk
          rw [e] at hk; exact hk
        · (simp only [↓zA, Qk, Qn, zB])
          rw [Zn (j + 1) (by omega)]
          exact s1 j rfl h1 h2
  · intro self hg
    simp only [QQ,Qk,Qn,Q5 (Nat.le_refl ks.length),Wi,q.len]
    unfold WT at hk
    rw [hg] at hk
    cases h1 : ltI (Int.ofNat ks.length) (Int.ofNat 1)
    · rw [h1] at hk
      (simp only [↓zA,Qk,Qn,zB,q.len])
      exact hk
    · rw [h1] at hk
      (simp only [↓zA,Qk,Qn,zB,q.len])
      exact hk
theorem t64 (q : QY h v ks) (hl : ks.length ≤ 1000000) (hk : KB (WT ks) h) : s64G J0 GH v h KB := by
  unfold s64G
  refine Xb usB (fun i=>(v,AV.int .i64 (Int.ofNat i),())) hl ?_ ?_
  · intro i hi self s1 s2 s3 s4
    obtain ⟨p,p1,p2⟩:=rd q hi
    simp only [QQ,Qk,Qn,q.len,Q0 hi,WR,p1,p2,GH]
    refine ⟨_,rfl,?_⟩
    cases h1 : usr (Str.of ks[i])
    · (simp only [↓zA, Qk, Qn, zB])
      have e:=s3 h1
      unfold WT at hk
      rw [e] at hk; exact hk
    · cases i with
      | zero =>
        (simp only [↓zA,Qk,Qn,zB,Q5 (Nat.le_refl 0)])
        rw [Zn 0 (by omega)]
        exact s2 rfl h1
      | succ j =>
        obtain ⟨p',p3,p4⟩:=rd q (i:=j) (by omega)
        (simp only [↓zA,Qk,Qn,zB,Q0 (Nat.zero_lt_succ j),JF j (by omega),p1,p2,p3,p4])
        cases h2 : Str.lt (Str.of ks[j]) (Str.of ks[j + 1])
        · (simp only [↓zA, Qk, Qn, zB])
          have e:=s4 j rfl h2
          unfold WT at hk
          rw [e] at hk; exact hk
        · (simp only [↓zA, Qk, Qn, zB])
          rw [Zn (j + 1) (by omega)]
          exact s1 j rfl h1 h2
  · intro self hg
    simp only [QQ,Qk,Qn,Q5 (Nat.le_refl ks.length),Wi,q.len]
    unfold WT at hk
    rw [hg] at hk
    cases h1 : ltI (Int.ofNat ks.length) (Int.ofNat 1)
    · rw [h1] at hk
      (simp only [↓zA,Qk,Qn,zB,q.len])
      exact hk
    · rw [h1] at hk
      (simp only [↓zA,Qk,Qn,zB,q.len])
      exact hk
end
end Go.Proofs.YtodlaigjjknpkaaGreatDoor
namespace Go.Proofs.YtodlaigjjknpkaaGreatDoor
open Go Go.Am
set_option linter.all false
set_option maxRecDepth 100000
def hasE (ks : List (List UInt8)) : Bool:=!(Gv neB ks)
def pIdx : AV→Str→H→(Int→H→Prop)→Prop:=fun v s h k=>s = ⟨0,0⟩ ∧ ∃ ks,QY h v ks ∧ ks.length ≤ 1000000 ∧ ∀ r : Int,ltI r (Int.ofNat 0) = Gv neB ks→k r h
def pCon : AV→Str→H→(Bool→H→Prop)→Prop:=fun v s h k=>s = ⟨0,0⟩ ∧ ∃ ks,QY h v ks ∧ ks.length ≤ 1000000 ∧ fB (hasE ks) fun b=>k b h
def V4 : AV→H→(Int→H→Prop)→Prop:=fun v h k=>∃ ks,QY h v ks ∧ k (YJ ks) h
theorem Uo {α β : Type} {body : (α→List Dfr→H→Prop)→α→List Dfr→H→Prop} {ks : List β} (P : β→Bool) (I : Nat→α→H→Prop) {x : α} {h : H} (hn : ks.length ≤ 4000000000000000000)
    (hb : ∀ i (hi : i < ks.length) x h self,I i x h→(P ks[i] = true→∀ x' h',I (i + 1) x' h'→self x' [] h')→(P ks[i] = false→∃ i,∃ hi : i < ks.length,P ks[i] = false)→body self x [] h)
    (hl : ∀ x h self,I ks.length x h→(∀ (i : Nat) (hi : i < ks.length),P ks[i] = true)→body self x [] h) (h0 : I 0 x h) : J0.lp body x [] h:=by
  refine Yx ks.length (fun i x h'=>I i x h' ∧ ∀ (i' : Nat) (hi' : i' < ks.length),i' < i→P ks[i'] = true) hn ?_ ?_ ⟨h0,fun i' _ h=>absurd h (Nat.not_lt_zero _)⟩
  · rintro i x h' self hi ⟨hI, hp⟩ hs
    refine hb i hi x h' self hI (fun h1 x' h'' hI'=>hs _ _ ⟨hI',fun i' hi' hlt=>?_⟩) (fun h1=>⟨i,hi,h1⟩)
    by_cases h3 : i' < i
    · exact hp i' hi' h3
    · obtain rfl : i' = i := by omega
      exact h1
  · rintro x h' self ⟨hI, hp⟩
    exact hl x h' self hI fun i hi=>hp i hi hi
section
variable {K : Int→H→Prop} {KB : Bool→H→Prop} {h : H} {v : AV} {ks : List (List UInt8)}
theorem QfN {P : List UInt8→Bool} {ks : List (List UInt8)} (e : ∃ i,∃ hi : i < ks.length,P ks[i] = false) : Gv P ks = false:=Yj fun g=>by
  obtain ⟨i,hi,e⟩:=e
  rw [Up.1 g i hi] at e; cases e
theorem t92 (q : QY h v ks) (hl : ks.length ≤ 1000000) (hk : ∀ r : Int, ltI r (Int.ofNat 0) = Gv neB ks → K r h) : s92G J0 v ⟨0, 0⟩ h K := by
  unfold s92G
  rw [q.len]
  refine Uo (ks:=ks) neB (fun i x h'=>x = (v,AV.str ⟨0,0⟩,AV.int .i64 (Int.ofNat ks.length),AV.int .i64 (Int.ofNat i),()) ∧ h' = h) (by omega) ?_ ?_ ⟨rfl,rfl⟩
  · rintro i hi x h' self ⟨rfl, rfl⟩ s1 s2
    obtain ⟨p,p1,p2⟩:=rd q hi
    simp only [QQ,Qk,Qn,Q0 hi,WR,p1,p2,W5]
    cases h1 : Str.beq ⟨0,0⟩ (Str.of ks[i])
    · have e : Str.beq (Str.of ks[i]) ⟨0, 0⟩ = false := by
        have h1 : Str.beq (Str.of []) (Str.of ks[i]) = false:=h1
        rw [Str.beq_of] at h1
        rw [Dj]
        cases hk : ks[i] with
        | nil=>rw [hk] at h1; cases h1
        | cons a l=>rfl
      (simp only [↓zA,Qk,Qn,zB])
      rw [Zn i (by omega)]
      exact s1 (by unfold neB; rw [e]; rfl) _ _ ⟨rfl,rfl⟩
    · have e : Str.beq (Str.of ks[i]) ⟨0, 0⟩ = true := by
        have h1 : Str.beq (Str.of []) (Str.of ks[i]) = true:=h1
        rw [Str.beq_of] at h1
        rw [Dj]
        cases hk : ks[i] with
        | nil=>rfl
        | cons a l=>rw [hk] at h1; cases h1
      (simp only [↓zA,Qk,Qn,zB])
      exact hk _ (by rw [QfN (s2 (by unfold neB; rw [e]; rfl))]; exact Q5 (Nat.zero_le _))
  · rintro x h' self ⟨rfl, rfl⟩ hp
    simp only [QQ,Qk,Qn,Q5 (Nat.le_refl ks.length),Wi]
    exact hk _ (by rw [Up.2 hp]; rfl)
theorem t53 (q : QY h v ks) (hl : ks.length ≤ 1000000) (hk : KB (hasE ks) h) : s53G J0 pIdx v ⟨0,0⟩ h KB:=by
  unfold s53G
  refine ⟨rfl,ks,q,hl,fun r hr=>?_⟩
  show fB (!(ltI r (Int.ofNat 0))) (fun b=>KB b h)
  rw [hr,Qk]; exact hk
theorem QfQ {α : Type} {body : (α → List Dfr → H → Prop) → α → List Dfr → H → Prop} {ks : List (List UInt8)} (w : Nat → α) {h : H} (hn : ks.length ≤ 1000000)
    (hb : ∀ j (hj : j + 1 < ks.length) self,(kLt ks[j] ks[j + 1] = true→self (w (j + 2)) [] h)→(kLt ks[j] ks[j + 1] = false→Qa2 ks = false)→body self (w (j + 1)) [] h)
    (hl : ∀ self m,ks.length ≤ m→Qa2 ks = true→body self (w m) [] h) : J0.lp body (w 1) [] h:=by
  refine Yx (ks.length - 1) (fun i x h'=>x = w (i + 1) ∧ h' = h ∧ ∀ (j : Nat) (hj : j + 1 < ks.length),j < i→kLt ks[j] ks[j + 1] = true) (by omega) ?_ ?_ ⟨rfl,rfl,fun i' _ h=>absurd h (Nat.not_lt_zero _)⟩
  · rintro i x h' self hi ⟨rfl, rfl, hp⟩ hs
    refine hb i (by omega) self (fun h1=>hs _ _ ⟨rfl,rfl,fun j hj hlt=>?_⟩) (fun h1=>Yj fun g=>?_)
    · by_cases h3 : j < i
      · exact hp j hj h3
      · obtain rfl : j = i := by omega
        exact h1
    · rw [JM.1 g (i + 1) i (by omega) rfl] at h1; cases h1
  · rintro x h' self ⟨rfl, rfl, hp⟩
    refine hl self _ (by omega) (JM.2 fun i j hi e=>?_)
    subst e
    exact hp j hi (by omega)
theorem t24 (q : QY h v ks) (hk : K (YJ ks) h) : s24G J0 pCon v h K := by
  unfold s24G
  unfold YJ at hk
  rw [q.len]
  cases h1 : ltI (Int.ofNat 15) (Int.ofNat ks.length)
  · rw [h1] at hk
    have hl : ks.length ≤ 15:=by
      have:=Zm.1 h1
      have h2 : (ks.length : Int) ≤ (15 : Int):=this
      omega
    (simp only [↓zA,Qk,Qn,zB])
    refine ⟨rfl,ks,q,by omega,?_⟩
    unfold hasE
    cases h2 : Gv neB ks
    · rw [h2] at hk
      (simp only [↓zA,Qk,Qn,zB]); exact hk
    · rw [h2] at hk
      (simp only [↓zA,Qk,Qn,zB])
      refine QfQ (ks:=ks) (fun i=>(v,AV.int .i64 (Int.ofNat i),())) (by omega) ?_ ?_
      · intro j hj self s1 s2
        obtain ⟨p,p1,p2⟩:=rd q hj
        obtain ⟨p',p3,p4⟩:=rd q (i:=j) (by omega)
        simp only [q.len,QQ,Qk,Qn,Q0 hj,WR,JF j (by omega),p1,p2,p3,p4]
        cases h3 : Str.lt (Str.of ks[j]) (Str.of ks[j + 1])
        · (simp only [↓zA, Qk, Qn, zB])
          rw [s2 h3] at hk; exact hk
        · (simp only [↓zA, Qk, Qn, zB])
          rw [Zn (j + 1) (by omega)]
          exact s1 h3
      · intro self m hm hg
        simp only [q.len,QQ,Qk,Qn,Q5 hm,Wi]
        rw [hg] at hk; exact hk
  · rw [h1] at hk
    (simp only [↓zA,Qk,Qn,zB]); exact hk
theorem t26 (q : QY h v ks) (hk : K (YJ ks) h) : s26G J0 v h K := by
  unfold s26G
  unfold YJ at hk
  rw [q.len]
  cases h1 : ltI (Int.ofNat 15) (Int.ofNat ks.length)
  · rw [h1] at hk
    have hl : ks.length ≤ 15:=by
      have:=Zm.1 h1
      have h2 : (ks.length : Int) ≤ (15 : Int):=this
      omega
    (simp only [↓zA,Qk,Qn,zB])
    refine Uo (ks:=ks) neB (fun i x h'=>x = (v,AV.int .i64 (Int.ofNat i),()) ∧ h' = h) (by omega) ?_ ?_ ⟨rfl,rfl⟩
    · rintro i hi x h' self ⟨rfl, rfl⟩ s1 s2
      obtain ⟨p,p1,p2⟩:=rd q hi
      simp only [q.len,QQ,Qk,Qn,Q0 hi,WR,p1,p2]
      cases h2 : Str.beq (Str.of ks[i]) ⟨0,0⟩
      · (simp only [↓zA, Qk, Qn, zB])
        rw [Zn i (by omega)]
        exact s1 (by unfold neB; rw [h2]; rfl) _ _ ⟨rfl,rfl⟩
      · (simp only [↓zA, Qk, Qn, zB])
        rw [QfN (s2 (by unfold neB; rw [h2]; rfl))] at hk; exact hk
    · rintro x h' self ⟨rfl, rfl⟩ hp
      simp only [q.len,QQ,Qk,Qn,Q5 (Nat.le_refl ks.length),Wi]
      rw [Up.2 hp] at hk
      refine QfQ (ks:=ks) (fun i=>(v,AV.int .i64 (Int.ofNat i),())) (by omega) ?_ ?_
      · intro j hj self s1 s2
        obtain ⟨p,p1,p2⟩:=rd q hj
        obtain ⟨p',p3,p4⟩:=rd q (i:=j) (by omega)
        simp only [q.len,QQ,Qk,Qn,Q0 hj,WR,JF j (by omega),p1,p2,p3,p4]
        cases h3 : Str.lt (Str.of ks[j]) (Str.of ks[j + 1])
        · (simp only [↓zA, Qk, Qn, zB])
          rw [s2 h3] at hk; exact hk
        · (simp only [↓zA, Qk, Qn, zB])
          rw [Zn (j + 1) (by omega)]
          exact s1 h3
      · intro self m hm hg
        simp only [q.len,QQ,Qk,Qn,Q5 hm,Wi]
        rw [hg] at hk; exact hk
  · rw [h1] at hk
    (simp only [↓zA,Qk,Qn,zB]); exact hk
end
end Go.Proofs.YtodlaigjjknpkaaGreatDoor
namespace Go.Proofs.YtodlaigjjknpkaaGreatDoor
open Go Go.Am
set_option linter.all false
set_option maxRecDepth 100000
def KR (s : Int × Int × Int) : List AV:=[.int .i64 s.1,.int .i32 s.2.1,.int .i32 s.2.2]
def No (t : Int × Int) : List AV:=[.int .i32 t.1,.int .i32 t.2]
def stB (s : Int × Int × Int) : Bool:=okS s.1 s.2.1 s.2.2
def txB (t : Int × Int) : Bool:=okT t.1 t.2
def heB (x : Int) : Bool:=!(ltI x (Int.ofNat 1)) && !(ltI (Int.ofNat 12) x)
theorem JK {β : Type} {P : β→Bool} {l : List β} (h : ∀ (i : Nat) (hi : i < l.length),P l[i] = true) : l.all P = true:=by
  rw [List.all_eq_true]; intro x hx
  obtain ⟨i,hi,rfl⟩:=List.getElem_of_mem hx
  exact h i hi
theorem UY {β : Type} {P : β→Bool} {l : List β} (h : ∃ i,∃ hi : i < l.length,P l[i] = false) : l.all P = false:=by
  obtain ⟨i,hi,e⟩:=h
  exact Yj fun g=>by rw [List.all_eq_true.1 g _ (List.getElem_mem hi)] at e; cases e
section
variable {K : Int→H→Prop} {KB : Bool→H→Prop} {h : H} {v : AV}
theorem t17 {l : List (Int × Int × Int)} (q : RowAt KR 3 h v l) (hl : l.length ≤ 1000000) (hw : h.base ≤ h.next) (hk : ∀ h',KB (l.all stB) h') : s17G J0 UP v h KB:=by
  unfold s17G
  rw [q.len]
  refine Uo (ks:=l) stB (fun i x h'=>x = (v,AV.int .i64 (Int.ofNat l.length),AV.int .i64 (Int.ofNat i),()) ∧ Low h.next h h') (by omega) ?_ ?_ ⟨rfl,.refl _ _⟩
  · rintro i hi x h' self ⟨rfl, lo⟩ s1 s2
    obtain ⟨p,p1,p2⟩:=RowAt.rd (f:=KR) (fun _=>rfl) q hi
    simp only [QQ,Qk,Qn,Q0 hi,WR,p1,p2 h' _ (fun id hid=>lo.get id hid),Qw]
    have g : (Qh h' (.cells false 29 [.int .i64 0,.int .i32 0,.int .i32 0])).get h'.next = .cells false 29 [.int .i64 0,.int .i32 0,.int .i32 0]:=by rw [Ze,if_pos rfl]
    have hn:=lo.next
    have hlt : h'.next < (Qh h' (.cells false 29 [.int .i64 0,.int .i32 0,.int .i32 0])).next:=Nat.lt_succ_self _
    rw [QdD (o:=0) (n:=3) (xs:=KR l[i]) (cs':=KR l[i]) g rfl rfl rfl hlt (by rw [Q4,lo.base]; omega)]
    have g2 : (QL (Qh h' (.cells false 29 [.int .i64 0,.int .i32 0,.int .i32 0])) h'.next (.cells false 29 (KR l[i]))).get h'.next = .cells false 29 (KR l[i]):=by rw [U3 _ _ _ hlt,if_pos rfl]
    have lo2 : Low h.next h (QL (Qh h' (.cells false 29 [.int .i64 0,.int .i32 0,.int .i32 0])) h'.next (.cells false 29 (KR l[i]))):=(lo.trans (Low.push _ _ _ hn)).trans (Low.put _ hlt hn)
    generalize QL (Qh h' (.cells false 29 [.int .i64 0,.int .i32 0,.int .i32 0])) h'.next (.cells false 29 (KR l[i])) = hp at g2 lo2 ⊢
    rw [QN (l:=KR l[i]) g2 rfl]
    refine ⟨_,_,_,rfl,?_⟩
    cases h1 : okS l[i].1 l[i].2.1 l[i].2.2
    · (simp only [↓zA, Qk, Qn, zB, QA])
      have e:=UY (s2 h1)
      rw [← e]; exact hk _
    · (simp only [↓zA, Qk, Qn, zB, QA])
      rw [Zn i (by omega)]
      exact s1 h1 _ _ ⟨rfl,lo2⟩
  · rintro x h' self ⟨rfl, lo⟩ hp
    simp only [QQ,Qk,Qn,Q5 (Nat.le_refl l.length),Wi]
    rw [← JK hp]; exact hk _
theorem t58 {l : List (Int × Int × Int)} (q : RowAt KR 3 h v l) (hl : l.length ≤ 1000000) (hk : KB (l.all stB) h) : s58G J0 UP v h KB:=by
  unfold s58G
  refine Uo (ks:=l) stB (fun i x h'=>x = (v,AV.int .i64 (Int.ofNat i),()) ∧ h' = h) (by omega) ?_ ?_ ⟨rfl,rfl⟩
  · rintro i hi x h' self ⟨rfl, rfl⟩ s1 s2
    obtain ⟨p,p1,p2⟩:=RowAt.rd (f:=KR) (fun _=>rfl) q hi
    simp only [q.len,QQ,Qk,Qn,Q0 hi,WR,p1,p2 h' _ (fun id hid=>rfl)]
    refine ⟨_,_,_,rfl,?_⟩
    cases h1 : okS l[i].1 l[i].2.1 l[i].2.2
    · (simp only [↓zA, Qk, Qn, zB, QA])
      rw [UY (s2 h1)] at hk; exact hk
    · (simp only [↓zA, Qk, Qn, zB, QA])
      rw [Zn i (by omega)]
      exact s1 h1 _ _ ⟨rfl,rfl⟩
  · rintro x h' self ⟨rfl, rfl⟩ hp
    simp only [q.len,QQ,Qk,Qn,Q5 (Nat.le_refl l.length),Wi]
    rw [JK hp] at hk; exact hk
theorem t60 {l : List (Int × Int)} (q : RowAt No 2 h v l) (hl : l.length ≤ 1000000) (hk : KB (l.all txB && !(ltI (Int.ofNat 64) (Int.ofNat l.length))) h) : s60G J0 QeM v h KB:=by
  unfold s60G
  refine Uo (ks:=l) txB (fun i x h'=>x = (v,AV.int .i64 (Int.ofNat i),()) ∧ h' = h) (by omega) ?_ ?_ ⟨rfl,rfl⟩
  · rintro i hi x h' self ⟨rfl, rfl⟩ s1 s2
    obtain ⟨p,p1,p2⟩:=RowAt.rd (f:=No) (fun _=>rfl) q hi
    simp only [q.len,QQ,Qk,Qn,Q0 hi,WR,p1,p2 h' _ (fun id hid=>rfl)]
    refine ⟨_,_,rfl,?_⟩
    cases h1 : okT l[i].1 l[i].2
    · (simp only [↓zA, Qk, Qn, zB, QA, cond_false, h1])
      rw [UY (s2 h1)] at hk; exact hk
    · (simp only [↓zA, Qk, Qn, zB, QA, cond_false, h1])
      rw [Zn i (by omega)]
      exact s1 h1 _ _ ⟨rfl,rfl⟩
  · rintro x h' self ⟨rfl, rfl⟩ hp
    simp only [q.len,QQ,Qk,Qn,Q5 (Nat.le_refl l.length),Wi]
    rw [JK hp] at hk; exact hk
end
end Go.Proofs.YtodlaigjjknpkaaGreatDoor
