import Derived.Test.YtodlaigjjknpkaaGreatDoorSvN
noncomputable section
namespace Go.Proofs.YtodlaigjjknpkaaGreatDoor
open Go Go.Am
set_option linter.all false
set_option maxRecDepth 100000
theorem Qb3 : ∀ a b : List UInt8,Op.bytesLess a b = true ↔ a < b
  | [],[]=>by simp [Op.bytesLess]
  | [],b :: bs=>by simp [Op.bytesLess]
  | a :: xs,[]=>by simp [Op.bytesLess]
  | a :: xs, b :: bs => by
    rw [List.cons_lt_cons_iff,← Qb3 xs bs]
    simp [Op.bytesLess]
theorem Yq {a b : List UInt8} : kLt a b = true ↔ a < b:=by unfold kLt; rw [Str.lt_of,Qb3]
theorem W2 {a b : List UInt8} : kLt a b = false ↔ ¬ a < b:=by rw [← Yq]; cases kLt a b <;> simp
theorem QfP {ks : List (List UInt8)} (had : Gg ks) : ∀ (d i : Nat) (h : i + d + 1 < ks.length),ks[i] < ks[i + d + 1]
  | 0,i,h=>Yq.1 (had (i + 1) i h rfl)
  | d + 1,i,h=>List.lt_trans (QfP had d i (by omega)) (Yq.1 (had (i + (d + 1) + 1) (i + d + 1) h rfl))
theorem VV {ks : List (List UInt8)} (had : Gg ks) {i j : Nat} (hij : i < j) (hj : j < ks.length) : ks[i]'(by omega) < ks[j]:=by
  obtain ⟨d,rfl⟩ : ∃ d,j = i + d + 1:=⟨j - i - 1,by omega⟩
  exact QfP had d i hj
def IsPos (ks : List (List UInt8)) (key : List UInt8) (p : Nat) : Prop:=p ≤ ks.length ∧ (∀ (k : Nat) (h : k < ks.length),k < p→kLt key ks[k] = false) ∧ ∀ (k : Nat) (h : k < ks.length),p ≤ k→kLt key ks[k] = true
theorem IsPos.uniq {ks : List (List UInt8)} {key : List UInt8} {p p' : Nat} (a : IsPos ks key p) (b : IsPos ks key p') : p = p':=by
  rcases Nat.lt_trichotomy p p' with h | h | h
  · have hp : p < ks.length := Nat.lt_of_lt_of_le h b.1
    have e1:=a.2.2 p hp (Nat.le_refl p)
    rw [b.2.1 p hp h] at e1; cases e1
  · exact h
  · have hp : p' < ks.length := Nat.lt_of_lt_of_le h a.1
    have e1:=b.2.2 p' hp (Nat.le_refl p')
    rw [a.2.1 p' hp h] at e1; cases e1
open Classical in
def DM (ks : List (List UInt8)) (key : List UInt8) : Nat:=if h : ∃ p,IsPos ks key p then h.choose else 0
theorem QbM {ks : List (List UInt8)} {key : List UInt8} {p : Nat} (h : IsPos ks key p) : DM ks key = p:=by
  have e : ∃ p,IsPos ks key p:=⟨p,h⟩
  unfold DM
  rw [dif_pos e]
  exact e.choose_spec.uniq h
def Srch (ks : List (List UInt8)) (key : List UInt8) (i : Nat) (b : Bool) : Prop:=i ≤ ks.length ∧ (∀ (k : Nat) (h : k < ks.length),k < i→kLt ks[k] key = true) ∧ (∀ (k : Nat) (h : k < ks.length),i ≤ k→kLt ks[k] key = false) ∧ (b = true ↔ ∃ h : i < ks.length,ks[i] = key)
theorem Srch.pos {ks : List (List UInt8)} (had : Gg ks) {key : List UInt8} {i : Nat} {b : Bool} (s : Srch ks key i b) : IsPos ks key (cond b (i + 1) i) := by
  obtain ⟨h1,h2,h3,h4⟩:=s
  cases b with
  | true =>
    obtain ⟨hi,he⟩:=h4.1 rfl
    refine ⟨hi,fun k hk hlt=>?_,fun k hk hle=>?_⟩
    · rw [W2]
      by_cases hki : k < i
      · exact List.lt_asymm (Yq.1 (h2 k hk hki))
      · obtain rfl : k = i := by simp at hlt; omega
        rw [he]; exact List.lt_irrefl key
    · rw [Yq, ← he]
      exact VV had (show i + 1 ≤ k from hle) hk
  | false =>
    refine ⟨h1,fun k hk hlt=>?_,fun k hk hle=>?_⟩
    · rw [W2]; exact List.lt_asymm (Yq.1 (h2 k hk hlt))
    · have hle : i ≤ k := hle
      rw [Yq]
      have hi : i < ks.length:=by omega
      have hne : ks[i] ≠ key:=fun e=>by have:=h4.2 ⟨hi,e⟩; cases this
      have hge:=W2.1 (h3 i hi (Nat.le_refl i))
      have hlt : key < ks[i]:=by
        by_cases h5 : key < ks[i]
        · exact h5
        · exact absurd (List.le_antisymm (List.not_lt.1 h5) (List.not_lt.1 hge)) hne
      rcases Nat.lt_or_ge i k with h6 | h6
      · exact List.lt_trans hlt (VV had h6 hk)
      · obtain rfl : i = k := by omega
        exact hlt
def QaB : Str→H→(Bool→H→Prop)→Prop:=fun _ h k=>k false h
def pLsS : Str→Str→H→(Bool→H→Prop)→Prop:=fun a b h k=>fB (Str.lt a b) fun r=>k r h
def pSrc : AV→Str→H→(Int→Bool→H→Prop)→Prop:=fun v s h k=>∃ ks key,s = Str.of key ∧ QY h v ks ∧ ks.length ≤ 15 ∧ Gg ks ∧ ∀ i b,Srch ks key i b→k (Int.ofNat i) b h
def pOf : AV→Str→H→(Int→Int→H→Prop)→Prop:=fun v s h k=>∃ ks key,s = Str.of key ∧ QY h v ks ∧ eqI (YJ ks) (Int.ofNat 0) = true ∧ k (Int.ofNat (DM ks key)) (Int.ofNat 0) h
def WD (ks : List (List UInt8)) (key : List UInt8) (nodes : Int) : Int:=Int.tmod (Int.ofNat (DM ks key)) nodes
def DP : AV→Str→Int→H→(Int→Int→H→Prop)→Prop:=fun v s x h k=>∃ ks key,s = Str.of key ∧ QY h v ks ∧ eqI (YJ ks) (Int.ofNat 0) = true ∧ JH x (Int.ofNat 1) (Int.ofNat 7) = true ∧ k (WD ks key x) (Int.ofNat 0) h
section
variable {K : Int→H→Prop} {KB : Bool→Prop} {KX : Int→Bool→H→Prop} {KI : Int→Int→H→Prop} {h : H} {v : AV} {ks : List (List UInt8)} {key : List UInt8}
theorem Ng (s : Str) : Str.beq s s = true:=by unfold Str.beq; simp
theorem t212 {a : Str} (hk : ∀ r,r = false→KB r) : Qbm J0 a H0 fun r _=>KB r:=by
  unfold Qbm; rw [Ng]; exact hk _ rfl
theorem t140 {a : Str} (hk : ∀ r,r = false→KB r) : Qbq J0 a H0 fun r _=>KB r:=by
  unfold Qbq; rw [Ng]; exact hk _ rfl
theorem t139 {a b : Str} (hk : ∀ r,r = Str.lt a b→KB r) : Qbs J0 QaB a b H0 fun r _=>KB r:=by (repeat' ((conv=>whnf); first | exact hk _ (by simp_all [or_true,Zu,Zv,QA,QT]) | refine ⟨_,_,_,rfl,?_⟩ | refine ⟨_,_,rfl,?_⟩ | (rw [ZD]; generalize hnb : nob _ _ = nb; cases nb) | refine QC (fun _=>?_) (fun _=>?_)))
theorem t89 (q : QY h v ks) (hl : ks.length ≤ 15) (had : Gg ks) (hk : ∀ i b, Srch ks key i b → KX (Int.ofNat i) b h) : s89G J0 pLsS QaB v (Str.of key) h KX := by
  unfold s89G
  rw [q.len]
  refine NA (fun m x d h'=>∃ i j,x = (v,AV.str (Str.of key),AV.int .i64 (Int.ofNat ks.length),AV.int .i64 (Int.ofNat i),AV.int .i64 (Int.ofNat j),()) ∧ d = [] ∧ h' = h ∧ i ≤ j ∧ j ≤ ks.length ∧ m = j - i ∧
    (∀ (k : Nat) (h : k < ks.length),k < i→kLt ks[k] key = true) ∧ ∀ (k : Nat) (h : k < ks.length),j ≤ k→kLt ks[k] key = false) ?_ (n:=ks.length) (by unfold fuel; omega) ⟨0,_,rfl,rfl,rfl,Nat.zero_le _,Nat.le_refl _,rfl,fun k _ h=>absurd h (Nat.not_lt_zero _),fun k h h2=>absurd h (by omega)⟩
  rintro m self x d h' ⟨i,j,rfl,rfl,rfl,hij,hj,rfl,hlo,hhi⟩ hs
  by_cases hc : i < j
  · have ew : Qu .i64 (Int.add (Int.ofNat i) (Int.ofNat j)) = Int.ofNat (i + j) := Vc (kk := .i64) (by show i + j < 9223372036854775808; omega)
    have eu : Qu .u64 (Int.ofNat (i + j)) = Int.ofNat (i + j):=Vc (kk:=.u64) (by show i + j < 18446744073709551616; omega)
    have em : (i + j) >>> 1 = (i + j) / 2:=by rw [Nat.shiftRight_eq_div_pow]
    have es : Dz (Int.ofNat (i + j)) (Gr 1 (IntKind.bits .u64)) = Int.ofNat ((i + j) / 2):=by
      rw [show Gr 1 (IntKind.bits .u64) = 1 from rfl,shr_nat,em]
    have e6 : Qu .i64 (Int.ofNat ((i + j) / 2)) = Int.ofNat ((i + j) / 2):=Vc (kk:=.i64) (by show (i + j) / 2 < 9223372036854775808; omega)
    have hm : (i + j) / 2 < ks.length:=by omega
    obtain ⟨p,p1,p2⟩:=rd q hm
    simp only [QQ,Qk,Qn,Q0 hc,WR,ew,eu,es,e6,p1,p2,W5,pLsS]
    cases hlt : Str.lt (Str.of ks[(i + j) / 2]) (Str.of key)
    · (simp only [↓zA, Qk, Qn, zB])
      refine hs ((i + j) / 2 - i) _ _ _ (by omega) ⟨i,(i + j) / 2,rfl,rfl,rfl,by omega,by omega,rfl,hlo,fun k hk hle=>?_⟩
      rcases Nat.lt_or_ge ((i + j) / 2) k with h6 | h6
      · rw [W2]
        intro h7
        exact W2.1 hlt (List.lt_trans (VV had h6 hk) h7)
      · obtain rfl : k = (i + j) / 2 := by omega
        exact hlt
    · (simp only [↓zA, Qk, Qn, zB])
      rw [Zn _ (by omega)]
      refine hs (j - ((i + j) / 2 + 1)) _ _ _ (by omega) ⟨(i + j) / 2 + 1,j,rfl,rfl,rfl,by omega,hj,rfl,fun k hk hle=>?_,hhi⟩
      rcases Nat.lt_or_ge k ((i + j) / 2) with h6 | h6
      · rw [Yq]
        exact List.lt_trans (VV had h6 hm) (Yq.1 hlt)
      · obtain rfl : k = (i + j) / 2 := by omega
        exact hlt
  · obtain rfl : i = j := by omega
    simp only [QQ,Qk,Qn,Q5 (Nat.le_refl i),Wi]
    by_cases hn : i < ks.length
    · obtain ⟨p, p1, p2⟩ := rd q hn
      (simp only [↓zA,Qk,Qn,zB,Q0 hn,p1,p2])
      rw [Str.beq_of]
      cases hb : (ks[i] == key)
      · (simp only [↓zA, Qk, Qn, zB, p1, p2, QaB])
        exact hk i false ⟨hj,hlo,hhi,⟨fun e=>(by cases e),fun ⟨_,e⟩=>by rw [e] at hb; simp at hb⟩⟩
      · (simp only [↓zA, Qk, Qn, zB])
        exact hk i true ⟨hj,hlo,hhi,⟨fun _=>⟨hn,by simpa using hb⟩,fun _=>rfl⟩⟩
    · (simp only [↓zA, Qk, Qn, zB, Q5 (Nat.le_of_not_lt hn)])
      exact hk i false ⟨hj,hlo,hhi,⟨fun e=>(by cases e),fun ⟨e,_⟩=>absurd e hn⟩⟩
theorem t51 (q : QY h v ks) (hc : eqI (YJ ks) (Int.ofNat 0) = true) (hk : KI (Int.ofNat (DM ks key)) (Int.ofNat 0) h) : s51G J0 V4 pSrc v (Str.of key) h KI:=by
  obtain ⟨hl,_,had⟩:=Wv hc
  unfold s51G
  refine ⟨ks,q,?_⟩
  (simp only [↓zA,Qk,Qn,zB,hc])
  refine ⟨ks,key,rfl,q,hl,had,fun i b s=>?_⟩
  have e:=QbM (s.pos had)
  have:=s.1
  cases b
  · have e : DM ks key = i := e
    rw [e] at hk
    (simp only [↓zA,Qk,Qn,zB,Yv]); exact hk
  · have e : DM ks key = i + 1 := e
    rw [e] at hk
    (simp only [↓zA,Qk,Qn,zB,Yv])
    rw [Zn i (by omega)]; exact hk
theorem QfH {x : Int} (h : JH x (Int.ofNat 1) (Int.ofNat 7) = true) : ltI x (Int.ofNat 1) = false ∧ ltI (Int.ofNat 7) x = false ∧ eqI x 0 = false:=by
  unfold JH at h
  rw [Bool.and_eq_true,Bool.not_eq_true',Bool.not_eq_true'] at h
  refine ⟨h.1,h.2,Z4.2 ?_⟩
  have:=Zm.1 h.1
  have h2 : (1 : Int) ≤ x:=this
  omega
theorem t20 {x : Int} (q : QY h v ks) (hc : eqI (YJ ks) (Int.ofNat 0) = true) (hx : JH x (Int.ofNat 1) (Int.ofNat 7) = true) (hk : KI (WD ks key x) (Int.ofNat 0) h) : s20G J0 pOf v (Str.of key) x h KI:=by
  obtain ⟨h1,h2,h3⟩:=QfH hx
  unfold s20G
  refine ⟨ks,key,rfl,q,hc,?_⟩
  dsimp only
  rw [show eqI (Int.ofNat 0) (Int.ofNat 0) = true from rfl]
  (simp only [↓zA,Qk,Qn,zB,h1,h2,h3,QfI])
  exact hk
theorem t22 {x : Int} (q : QY h v ks) (hc : eqI (YJ ks) (Int.ofNat 0) = true) (hx : JH x (Int.ofNat 1) (Int.ofNat 7) = true) (hk : KI (WD ks key x) (Int.ofNat 0) h) : s22G J0 pOf v (Str.of key) x h KI:=by
  obtain ⟨h1,h2,h3⟩:=QfH hx
  unfold s22G
  refine ⟨ks,key,rfl,q,hc,?_⟩
  dsimp only
  rw [show eqI (Int.ofNat 0) (Int.ofNat 0) = true from rfl]
  (simp only [↓zA,Qk,Qn,zB,h1,h2,h3,QfI])
  exact hk
theorem has_pos {i : Nat} (hi : i ≤ ks.length) (hb : NG (frO ks i) (toO ks i) (Str.of key) = true) (hne : QfM neB ks) (had : Gg ks) : IsPos ks key i := by
  unfold NG at hb
  rw [Bool.and_eq_true,Bool.not_eq_true',Bool.or_eq_true] at hb
  obtain ⟨h1,h2⟩:=hb
  refine ⟨hi,fun k hk hlt=>?_,fun k hk hle=>?_⟩
  · obtain ⟨j, rfl⟩ : ∃ j, i = j + 1 := ⟨i - 1, by omega⟩
    rw [Vo,ZM (show j < ks.length by omega)] at h1
    have h1 : ¬ key < ks[j]:=W2.1 h1
    rw [W2]
    rcases Nat.lt_or_ge k j with h3 | h3
    · intro h4
      exact h1 (List.lt_trans h4 (VV had h3 (by omega)))
    · obtain rfl : k = j := by omega
      exact h1
  · have hi' : i < ks.length := by omega
    have h2 : kLt key ks[i] = true:=by
      rcases h2 with h2 | h2
      · unfold toO at h2
        rw [ZM hi'] at h2
        have:=hne i hi'
        unfold neB at this
        rw [h2] at this; cases this
      · unfold toO at h2
        rw [ZM hi'] at h2
        exact h2
    rcases Nat.lt_or_ge i k with h3 | h3
    · rw [Yq]
      exact List.lt_trans (Yq.1 h2) (VV had h3 hk)
    · obtain rfl : i = k := by omega
      exact h2
theorem pos_ex (had : Gg ks) (key : List UInt8) : ∃ p, IsPos ks key p := by
  have go : ∀ n, n ≤ ks.length → (∀ (k : Nat) (h : k < ks.length), k < n → kLt key ks[k] = false) ∨ ∃ p, p < n ∧ ∃ hp : p < ks.length, kLt key ks[p] = true ∧ ∀ (k : Nat) (h : k < ks.length), k < p → kLt key ks[k] = false := by
    intro n
    induction n with
    | zero=>intro _; exact .inl fun k h h2=>absurd h2 (Nat.not_lt_zero _)
    | succ n ih =>
      intro hn
      rcases ih (by omega) with h | ⟨p,h1,h2,h3,h4⟩
      · cases hb : kLt key (ks[n]'(by omega))
        · refine .inl fun k hk hlt => ?_
          by_cases e : k < n
          · exact h k hk e
          · obtain rfl : k = n := by omega
            exact hb
        · exact .inr ⟨n,by omega,by omega,hb,h⟩
      · exact .inr ⟨p,by omega,h2,h3,h4⟩
  rcases go ks.length (Nat.le_refl _) with h | ⟨p,h1,h2,h3,h4⟩
  · exact ⟨ks.length,Nat.le_refl _,h,fun k hk hle=>absurd hk (by omega)⟩
  · refine ⟨p, by omega, h4, fun k hk hle => ?_⟩
    rcases Nat.lt_or_ge p k with h5 | h5
    · rw [Yq]
      exact List.lt_trans (Yq.1 h3) (VV had h5 hk)
    · obtain rfl : p = k := by omega
      exact h3
theorem pos_has {p : Nat} (s : IsPos ks key p) : NG (frO ks p) (toO ks p) (Str.of key) = true:=by
  obtain ⟨h1,h2,h3⟩:=s
  unfold NG
  rw [Bool.and_eq_true,Bool.not_eq_true',Bool.or_eq_true]
  constructor
  · cases p with
    | zero=>exact W2.2 (show ¬ key < [] from List.not_lt_nil key)
    | succ j=>rw [Vo,ZM (show j < ks.length by omega)]; exact h2 j (by omega) (by omega)
  · rcases Nat.lt_or_ge p ks.length with h4 | h4
    · right; unfold toO; rw [ZM h4]; exact h3 p h4 (Nat.le_refl _)
    · left; unfold toO; rw [Jw h4]; rfl
theorem t52 (q : QY h v ks) (hw : h.base ≤ h.next) (hc : eqI (YJ ks) (Int.ofNat 0) = true) (hk : ∀ h', KI (Int.ofNat (DM ks key)) (Int.ofNat 0) h') : s52G J0 V4 f90 pHas v (Str.of key) h KI := by
  obtain ⟨hl,hne,had⟩:=Wv hc
  unfold s52G
  refine ⟨ks,q,?_⟩
  (simp only [↓zA,Qk,Qn,zB,hc])
  refine t90 q hw hl fun va ha al ga loa hal hac=>?_
  have gra:=ga.row
  refine Yx (ks.length + 1) (fun i x h'=>x = (AV.str (Str.of key),va,AV.int .i64 (Int.ofNat i),()) ∧ h' = ha ∧ ∀ i',i' < i→NG (frO ks i') (toO ks i') (Str.of key) = false) (by omega) ?_ ?_ ⟨rfl,rfl,fun i' h=>absurd h (Nat.not_lt_zero _)⟩
  · rintro i x h' self hi ⟨rfl, rfl, hp⟩ hs
    obtain ⟨p,p1,p2⟩:=RowAt.rd (f:=spc) (fun _=>rfl) gra (i:=i) (by omega)
    (simp only [↓zA,Qk,Qn,zB,gra.len,hal,Q0 hi,p1,p2 h' _ (fun id hid=>rfl),hac i (by omega)])
    refine ⟨_,_,rfl,?_⟩
    cases hb : NG (frO ks i) (toO ks i) (Str.of key)
    · (simp only [↓zA, Qk, Qn, zB])
      rw [Zn i (by omega)]
      refine hs _ _ ⟨rfl,rfl,fun i' hlt=>?_⟩
      by_cases e : i' < i
      · exact hp i' e
      · obtain rfl : i' = i := by omega
        exact hb
    · (simp only [↓zA, Qk, Qn, zB])
      have:=hk h'
      rw [QbM (has_pos (by omega) hb hne had)] at this; exact this
  · rintro x h' self ⟨rfl, rfl, hp⟩
    obtain ⟨p,hpos⟩:=pos_ex had key
    have e1:=pos_has hpos
    rw [hp p (by have:=hpos.1; omega)] at e1; cases e1
end
end Go.Proofs.YtodlaigjjknpkaaGreatDoor
namespace Go.Proofs.YtodlaigjjknpkaaGreatDoor
open Go Go.Am
set_option linter.all false
set_option maxRecDepth 100000
def Yh (X : Ask) : List (List UInt8) :=
  cond (eqI X.kind (Int.ofNat 1) || eqI X.kind (Int.ofNat 11)) [X.fr] (cond (eqI X.kind (Int.ofNat 2)) (X.wrs.map fun w=>w.1) (cond (eqI X.kind (Int.ofNat 3) || eqI X.kind (Int.ofNat 4)) X.keys
    (cond (eqI X.kind (Int.ofNat 9) || eqI X.kind (Int.ofNat 10)) X.keys [X.anchor])))
def KO (X : Ask) : Bool:=eqI X.kind (Int.ofNat 1) || eqI X.kind (Int.ofNat 11) || (eqI X.kind (Int.ofNat 2) || !(eqI X.kind (Int.ofNat 3) || eqI X.kind (Int.ofNat 4)))
def WQ (X : Ask) : List (List UInt8):=cond (KO X) (Yh X) ((Yh X).take 1)
theorem J1 {ks : List (List UInt8)} (h : WT ks = true) : 0 < ks.length:=by
  unfold WT at h
  rw [Bool.and_eq_true,Bool.and_eq_true,Bool.not_eq_true'] at h
  have:=Zm.1 h.2.1
  have h2 : (1 : Int) ≤ (ks.length : Int):=this
  omega
theorem XX {C : Cfg} {X : Ask} (h : XQ C X = true) : 0 < (Yh X).length := by
  unfold XQ at h
  unfold Yh
  cases e1 : eqI X.kind (Int.ofNat 1)
  · rw [e1] at h
    cases e2 : eqI X.kind (Int.ofNat 2)
    · rw [e2] at h
      cases e3 : (eqI X.kind (Int.ofNat 3) || eqI X.kind (Int.ofNat 4))
      · rw [e3] at h
        cases e11 : eqI X.kind (Int.ofNat 11)
        · cases e9 : (eqI X.kind (Int.ofNat 9) || eqI X.kind (Int.ofNat 10))
          · exact Nat.one_pos
          · have n5 : (eqI X.kind (Int.ofNat 5) || eqI X.kind (Int.ofNat 12)) = false := by
              rw [Bool.or_eq_true,ZC,ZC] at e9
              rw [Bool.or_eq_false_iff,Z4,Z4]
              rcases e9 with e | e <;> rw [e] <;> exact ⟨by decide,by decide⟩
            have n6 : eqI X.kind (Int.ofNat 6) = false:=by
              rw [Bool.or_eq_true,ZC,ZC] at e9
              rw [Z4]
              rcases e9 with e | e <;> rw [e] <;> decide
            have n7 : (eqI X.kind (Int.ofNat 7) || eqI X.kind (Int.ofNat 8)) = false:=by
              rw [Bool.or_eq_true,ZC,ZC] at e9
              rw [Bool.or_eq_false_iff,Z4,Z4]
              rcases e9 with e | e <;> rw [e] <;> exact ⟨by decide,by decide⟩
            rw [n5,n6,n7] at h
            simp only [cond_false] at h
            show 0 < X.keys.length
            cases e99 : eqI X.kind (Int.ofNat 9)
            · rw [e99] at h e9
              rw [Bool.false_or] at e9
              rw [e9] at h
              simp only [cond_true,cond_false,Bool.and_eq_true] at h
              exact J1 h.2.2
            · rw [e99] at h
              simp only [cond_true,Qds,Bool.and_eq_true] at h
              exact J1 h.2.2
        · exact Nat.one_pos
      · rw [e3] at h
        simp only [cond_true,cond_false,Qan,Bool.and_eq_true] at h
        cases e11 : eqI X.kind (Int.ofNat 11)
        · exact J1 h.2
        · exact Nat.one_pos
    · rw [e2] at h
      simp only [cond_true,cond_false,Qay,Bool.and_eq_true,Bool.not_eq_true'] at h
      cases e11 : eqI X.kind (Int.ofNat 11)
      · show 0 < (X.wrs.map fun w => w.1).length
        rw [List.length_map]
        have:=Zm.1 h.2.1
        have h2 : (1 : Int) ≤ (X.wrs.length : Int):=this
        omega
      · exact Nat.one_pos
  · exact Nat.one_pos
theorem Qb8 {X : Ask} (l0 : X.keys.length ≤ 70) (l1 : X.wrs.length ≤ 70) : (Yh X).length ≤ 70 := by
  unfold Yh
  cases (eqI X.kind (Int.ofNat 1) || eqI X.kind (Int.ofNat 11))
  · cases eqI X.kind (Int.ofNat 2)
    · cases (eqI X.kind (Int.ofNat 3) || eqI X.kind (Int.ofNat 4))
      · cases (eqI X.kind (Int.ofNat 9) || eqI X.kind (Int.ofNat 10))
        · show 1 ≤ 70; decide
        · exact l0
      · exact l0
    · show (X.wrs.map fun w => w.1).length ≤ 70
      rw [List.length_map]; exact l1
  · show 1 ≤ 70; decide
section
variable {KA : AV→H→Prop} {KV : AV→Bool→H→Prop} {h : H}
theorem Qdj {h : H} {k : List UInt8} : QY (Qh h (.cells false 9 [.str (Str.of k)])) (.slice h.next 0 1 1 1 true) [k]:=.inr ⟨_,_,_,_,_,rfl,QO h _,Nat.lt_succ_self _⟩
theorem D3 {α β : Type} {f : β→List AV} {g : α→β} {e es n : Nat} {h : H} {v : AV} {l : List α} (q : Grow (fun a=>f (g a)) e es n h v l) : Grow f e es n h v (l.map g):=by
  rcases q with ⟨q1,q2⟩ | ⟨id,m,q1,q2,q3,q4⟩
  · exact .inl ⟨q1,by rw [q2]; rfl⟩
  · exact .inr ⟨id,m,by rw [List.length_map]; exact q1,q2,q3,by rw [List.flatMap_map]; exact q4⟩
theorem t21 {X : Ask} (x : AskIn h X) (hw : h.base ≤ h.next) (hk : ∀ v h', QY h' v (Yh X) → Low h.next h h' → KV v (KO X) h') : Qeg J0 (.agg (Qx X)) h KV := by
  unfold Qeg
  rw [QJ,Qw]
  have lo0 : Low h.next h (Qh h (.cells false 40 (Qx X))):=.push _ _ _ (Nat.le_refl _)
  have g1:=QO h (.cells false 40 (Qx X))
  have n0 : (Qh h (.cells false 40 (Qx X))).next = h.next + 1:=rfl
  have x1:=x.low lo0 (Nat.le_refl _)
  generalize Qh h (.cells false 40 (Qx X)) = h1 at lo0 g1 n0 x1 ⊢
  have b0:=lo0.base
  have hl:=x.l1
  rw [Zy (x:=X.kind) g1 rfl]
  unfold Yh KO at hk
  have one : ∀ (off : Nat) (k : List UInt8) (kk : Prop),True:=fun _ _ _=>trivial
  cases e1 : eqI X.kind (Int.ofNat 1)
  · cases e11 : eqI X.kind (Int.ofNat 11)
    · rw [e1, e11] at hk
      cases e2 : eqI X.kind (Int.ofNat 2)
      · rw [e2] at hk
        cases e3 : eqI X.kind (Int.ofNat 3)
        · cases e4 : eqI X.kind (Int.ofNat 4)
          · rw [e3, e4] at hk
            cases e9 : eqI X.kind (Int.ofNat 9)
            · cases e10 : eqI X.kind (Int.ofNat 10)
              · rw [e9, e10] at hk
                (simp only [↓zA,Qk,Qn,zB,Yv,e1,e11,e2,e3,e4,e9,e10,QW,ZG (o:=Nat.add 0 14) (x:=Str.of X.anchor) g1 rfl,Qw])
                exact hk _ _ Qdj (lo0.trans (.push _ _ _ (by omega)))
              · rw [e9, e10] at hk
                (simp only [↓zA,Qk,Qn,zB,Yv,e1,e11,e2,e3,e4,e9,e10,QW,QS (o:=Nat.add 0 26) (v:=X.vk) g1 rfl])
                exact hk _ _ x1.keys lo0
            · rw [e9] at hk
              (simp only [↓zA,Qk,Qn,zB,Yv,e1,e11,e2,e3,e4,e9,QW,QS (o:=Nat.add 0 26) (v:=X.vk) g1 rfl])
              exact hk _ _ x1.keys lo0
          · rw [e3, e4] at hk
            (simp only [↓zA,Qk,Qn,zB,Yv,e1,e11,e2,e3,e4,QW,QS (o:=Nat.add 0 26) (v:=X.vk) g1 rfl])
            exact hk _ _ x1.keys lo0
        · rw [e3] at hk
          (simp only [↓zA,Qk,Qn,zB,Yv,e1,e11,e2,e3,QW,QS (o:=Nat.add 0 26) (v:=X.vk) g1 rfl])
          exact hk _ _ x1.keys lo0
      · rw [e2] at hk
        (simp only [↓zA,Qk,Qn,zB,Yv,e1,e11,e2])
        refine Yx X.wrs.length (fun i z h'=>∃ out,z = (AV.ptr h.next 0,out,AV.int .i64 (Int.ofNat i),()) ∧ Low h1.next h1 h' ∧ Grow (fun w : List UInt8 × List UInt8 × Bool=>UU w.1) 9 1 h1.next h' out (X.wrs.take i)) (by omega) ?_ ?_ ⟨_,rfl,.refl _ _,by rw [List.take_zero]; exact .nil _ _ _ _ _⟩
        · rintro i z h' self hi ⟨out, rfl, lo, g⟩ hs
          have n1:=lo.next
          have b1:=lo.base
          have ga : h'.get h.next = .cells false 40 (Qx X):=(lo.get _ (by omega)).trans g1
          obtain ⟨id,o,p1,p2,p3⟩:=RowAt.rdF (f:=wrc) (fun _=>rfl) x1.wrs hi
          (simp only [↓zA,Qk,Qn,zB,QW,QS (o:=Nat.add 0 27) (v:=X.vw) ga rfl,x1.wrs.len,Q0 hi,p1,p3 h' 0 (Str.of X.wrs[i].1) _ (fun id hid=>lo.get id hid) (by decide) rfl,Qw])
          refine VT (f:=fun w : List UInt8 × List UInt8 × Bool=>UU w.1) (a:=X.wrs[i]) (g.keep (.push h'.next _ _ (Nat.le_refl _)) (Nat.le_refl _)) (fun _=>rfl) (fun _=>rfl) (QO h' _) (by rw [Q4]; omega) (by rw [QU]; omega) (by rw [List.length_take]; unfold QR; omega) fun v4 h4 g4 lo4=>?_
          rw [Zn i (by omega)]
          refine hs _ _ ⟨v4,rfl,(lo.trans (.push _ _ _ n1)).trans lo4,?_⟩
          rw [List.take_succ,List.getElem?_eq_getElem hi]; exact g4
        · rintro z h' self ⟨out, rfl, lo, g⟩
          have ga : h'.get h.next = .cells false 40 (Qx X):=(lo.get _ (by omega)).trans g1
          (simp only [↓zA,Qk,Qn,zB,QW,QS (o:=Nat.add 0 27) (v:=X.vw) ga rfl,x1.wrs.len,Q5 (Nat.le_refl X.wrs.length)])
          rw [List.take_length] at g
          exact hk _ _ (D3 (g:=fun w : List UInt8 × List UInt8 × Bool=>w.1) g).row (lo0.trans (lo.down (by omega)))
    · rw [e1, e11] at hk
      (simp only [↓zA,Qk,Qn,zB,Yv,e1,e11,QW,ZG (o:=Nat.add (Nat.add 0 15) 0) (x:=Str.of X.fr) g1 rfl,Qw])
      exact hk _ _ Qdj (lo0.trans (.push _ _ _ (by omega)))
  · rw [e1] at hk
    (simp only [↓zA,Qk,Qn,zB,Yv,e1,QW,ZG (o:=Nat.add (Nat.add 0 15) 0) (x:=Str.of X.fr) g1 rfl,Qw])
    exact hk _ _ Qdj (lo0.trans (.push _ _ _ (by omega)))
structure Qa8 (h : H) (v : AV) (ks : List (List UInt8)) : Prop where
  len : ∀ k : Nat→Prop,Q6 v k = k ks.length
  at_ : ∀ (i : Nat) (hi : i < ks.length),∃ p,(∀ (kk : IntKind) (k : AV→Prop),ixK 1 v (.int kk (Int.ofNat i)) k = k p) ∧ ∀ (h' : H) (k : Str→Prop),(∀ id,id < h.next→h'.get id = h.get id)→ldS p h' k = k (Str.of ks[i])
theorem UF {h : H} {v : AV} {ks : List (List UInt8)} (q : QY h v ks) : Qa8 h v ks:=⟨fun k=>q.len k,fun i hi=>q.rdS hi⟩
theorem sl_one {id cap : Nat} {len : Nat} {ex : Bool} (hc : 1 ≤ cap) (k : AV→Prop) : slK 1 (.slice id 0 len cap 1 ex) none (some (.int .i64 (Int.ofNat 1))) k = k (.slice id 0 1 cap 1 ex):=by
  show ck (Nat.ble 1 cap) (ck (Nat.ble 0 1) (ck (Nat.beq 1 1) (br (Nat.beq cap 0) (fN (Nat.sub 1 0) fun n=>k (.slice id 0 n 0 1 ex)) (fN (Nat.add 0 (Nat.mul 0 1)) fun o=>fN (Nat.sub 1 0) fun n=>fN (Nat.sub cap 0) fun c=>k (.slice id o n c 1 ex))))) = _
  obtain ⟨c,rfl⟩ : ∃ c,cap = c + 1:=⟨cap - 1,by omega⟩
  rw [(Qv 1 (c + 1)).2 hc,QfI,show Nat.ble 0 1 = true from rfl,QfI,show Nat.beq 1 1 = true from rfl,QfI,show Nat.beq (c + 1) 0 = false from rfl,Wi,Zk,Zk,Zk]; rfl
theorem DY {h : H} {v : AV} {ks : List (List UInt8)} (q : QY h v ks) (h0 : 0 < ks.length) (hc : ∀ id o n c es ex,v = .slice id o n c es ex→n ≤ c) (k : AV→Prop) (hk : ∀ v',Qa8 h v' (ks.take 1)→k v') : slK 1 v none (some (.int .i64 (Int.ofNat 1))) k:=by
  have q':=q
  rcases q with ⟨rfl,rfl⟩ | ⟨id,c,ex,m,t,rfl,q2,q3⟩
  · simp at h0
  · have hcap := hc _ _ _ _ _ _ rfl
    rw [sl_one (by omega)]
    have e : (ks.take 1).length = 1:=by rw [List.length_take]; omega
    refine hk _ ⟨fun k=>by rw [e]; rfl,fun i hi=>?_⟩
    obtain rfl : i = 0:=by omega
    have g0 : (ks.take 1)[0] = ks[0]:=by simp
    refine ⟨.ptr id 0,fun kk k=>ixK1 Nat.one_pos k,fun h' k hg=>?_⟩
    rw [g0]
    refine ZG ((hg id q3).trans q2) ?_ k
    cases ks with
    | nil=>simp at h0
    | cons a l=>rfl
theorem t19 {X : Ask} (x : AskIn h X) (hw : h.base ≤ h.next) (hpos : 0 < (Yh X).length) (hk : ∀ v h', Qa8 h' v (WQ X) → Low h.next h h' → KA v h') : Qej J0 (.agg (Qx X)) h KA := by
  unfold Qej
  rw [QJ,Qw]
  have lo0 : Low h.next h (Qh h (.cells false 40 (Qx X))):=.push _ _ _ (Nat.le_refl _)
  have g1:=QO h (.cells false 40 (Qx X))
  have n0 : (Qh h (.cells false 40 (Qx X))).next = h.next + 1:=rfl
  have x1:=x.low lo0 (Nat.le_refl _)
  generalize Qh h (.cells false 40 (Qx X)) = h1 at lo0 g1 n0 x1 ⊢
  have b0:=lo0.base
  have hl:=x.l1
  rw [Zy (x:=X.kind) g1 rfl]
  unfold WQ Yh KO at hk
  unfold Yh at hpos
  cases e1 : eqI X.kind (Int.ofNat 1)
  · cases e11 : eqI X.kind (Int.ofNat 11)
    · rw [e1, e11] at hk hpos
      cases e2 : eqI X.kind (Int.ofNat 2)
      · rw [e2] at hk hpos
        cases e3 : eqI X.kind (Int.ofNat 3)
        · cases e4 : eqI X.kind (Int.ofNat 4)
          · rw [e3, e4] at hk hpos
            cases e9 : eqI X.kind (Int.ofNat 9)
            · cases e10 : eqI X.kind (Int.ofNat 10)
              · rw [e9, e10] at hk
                (simp only [↓zA,Qk,Qn,zB,Yv,e1,e11,e2,e3,e4,e9,e10,QW,ZG (o:=Nat.add 0 14) (x:=Str.of X.anchor) g1 rfl,Qw])
                exact hk _ _ (UF Qdj) (lo0.trans (.push _ _ _ (by omega)))
              · rw [e9, e10] at hk
                (simp only [↓zA,Qk,Qn,zB,Yv,e1,e11,e2,e3,e4,e9,e10,QW,QS (o:=Nat.add 0 26) (v:=X.vk) g1 rfl])
                exact hk _ _ (UF x1.keys) lo0
            · rw [e9] at hk
              (simp only [↓zA,Qk,Qn,zB,Yv,e1,e11,e2,e3,e4,e9,QW,QS (o:=Nat.add 0 26) (v:=X.vk) g1 rfl])
              exact hk _ _ (UF x1.keys) lo0
          · rw [e3, e4] at hk hpos
            (simp only [↓zA,Qk,Qn,zB,Yv,e1,e11,e2,e3,e4,QW,QS (o:=Nat.add 0 26) (v:=X.vk) g1 rfl])
            exact DY x1.keys hpos x1.kc _ fun v' q=>hk _ _ q lo0
        · rw [e3] at hk hpos
          (simp only [↓zA,Qk,Qn,zB,Yv,e1,e11,e2,e3,QW,QS (o:=Nat.add 0 26) (v:=X.vk) g1 rfl])
          exact DY x1.keys hpos x1.kc _ fun v' q=>hk _ _ q lo0
      · rw [e2] at hk
        (simp only [↓zA,Qk,Qn,zB,Yv,e1,e11,e2,QW,QS (o:=Nat.add 0 27) (v:=X.vw) g1 rfl,x1.wrs.len])
        refine Yx X.wrs.length (fun i z h'=>∃ out,z = (out,X.vw,AV.int .i64 (Int.ofNat X.wrs.length),AV.int .i64 (Int.ofNat i),()) ∧ Low h1.next h1 h' ∧ Grow (fun w : List UInt8 × List UInt8 × Bool=>UU w.1) 9 1 h1.next h' out (X.wrs.take i)) (by omega) ?_ ?_ ⟨_,rfl,.refl _ _,by rw [List.take_zero]; exact .nil _ _ _ _ _⟩
        · rintro i z h' self hi ⟨out, rfl, lo, g⟩ hs
          have n1:=lo.next
          have b1:=lo.base
          obtain ⟨p,p1,p2⟩:=RowAt.rd (f:=wrc) (fun _=>rfl) x1.wrs hi
          (simp only [↓zA,Qk,Qn,zB,Q0 hi,p1,p2 h' _ (fun id hid=>lo.get id hid),Qw])
          rw [wrc,Qbd rfl (by omega),ZG (x:=Str.of X.wrs[i].1) (QO h' _) rfl]
          have lo2 : Low h1.next h1 (Qh h' (.cells false 65 [.str (Str.of X.wrs[i].1),.str (Str.of X.wrs[i].2.1),.bool X.wrs[i].2.2])):=lo.trans (.push _ _ _ n1)
          have g2:=g.keep (.push h'.next h' (.cells false 65 [.str (Str.of X.wrs[i].1),.str (Str.of X.wrs[i].2.1),.bool X.wrs[i].2.2]) (Nat.le_refl _)) (Nat.le_refl _)
          generalize Qh h' (.cells false 65 [.str (Str.of X.wrs[i].1),.str (Str.of X.wrs[i].2.1),.bool X.wrs[i].2.2]) = h2 at lo2 g2 ⊢
          have n2:=lo2.next
          have b2:=lo2.base
          refine VT (f:=fun w : List UInt8 × List UInt8 × Bool=>UU w.1) (a:=X.wrs[i]) (g2.keep (.push h2.next _ _ (Nat.le_refl _)) (Nat.le_refl _)) (fun _=>rfl) (fun _=>rfl) (QO h2 _) (by rw [Q4]; omega) (by rw [QU]; omega) (by rw [List.length_take]; unfold QR; omega) fun v4 h4 g4 lo4=>?_
          rw [Zn i (by omega)]
          refine hs _ _ ⟨v4,rfl,(lo2.trans (.push _ _ _ n2)).trans lo4,?_⟩
          rw [List.take_succ,List.getElem?_eq_getElem hi]; exact g4
        · rintro z h' self ⟨out, rfl, lo, g⟩
          (simp only [↓zA,Qk,Qn,zB,Q5 (Nat.le_refl X.wrs.length)])
          rw [List.take_length] at g
          exact hk _ _ (UF (D3 (g:=fun w : List UInt8 × List UInt8 × Bool=>w.1) g).row) (lo0.trans (lo.down (by omega)))
    · rw [e1, e11] at hk
      (simp only [↓zA,Qk,Qn,zB,Yv,e1,e11,QW,ZG (o:=Nat.add (Nat.add 0 15) 0) (x:=Str.of X.fr) g1 rfl,Qw])
      exact hk _ _ (UF Qdj) (lo0.trans (.push _ _ _ (by omega)))
  · rw [e1] at hk
    (simp only [↓zA,Qk,Qn,zB,Yv,e1,QW,ZG (o:=Nat.add (Nat.add 0 15) 0) (x:=Str.of X.fr) g1 rfl,Qw])
    exact hk _ _ (UF Qdj) (lo0.trans (.push _ _ _ (by omega)))
end
end Go.Proofs.YtodlaigjjknpkaaGreatDoor
