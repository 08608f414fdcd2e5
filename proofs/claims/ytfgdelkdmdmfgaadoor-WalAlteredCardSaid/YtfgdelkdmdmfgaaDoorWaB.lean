import Derived.Test.YtfgdelkdmdmfgaaDoorVxR
import Derived.Test.YtfgdelkdmdmfgaaDoorPxE
import Derived.Test.YtfgdelkdmdmfgaaDoorAmL7
import Derived.Test.YtfgdelkdmdmfgaaDoorSvA2
import Derived.Test.YtfgdelkdmdmfgaaDoorAmS2
namespace Go.Am
open Go
set_option linter.all false
set_option maxRecDepth 100000
theorem SlB.low {h h':H} {n:Nat} {v:AV} {b:List UInt8} (s:SlB h v b) (l:Low n h h') (hn:h.next≤n):SlB h' v b :=
  s.same fun id t f g x e=>l.get id (Nat.lt_of_lt_of_le (H.lt_of_live (by rw [e];rfl)) hn)
theorem SlB.at {h : H} {v : AV} {b : List UInt8} (s : SlB h v b) {i : Nat} (hi : i < b.length) : ∃ p, (∀ (kk : IntKind) (k : AV → Prop), ixK 1 v (.int kk (Int.ofNat i)) k = k p) ∧
    ∀ (h':H) (k:Int→Prop),(∀ id,id < h.next→h'.get id=h.get id)→ldI .u8 p h' k=k (bI b[i]):=by
  rcases s with ⟨rfl,rfl⟩ | ⟨id,off,cap,ex,t,f,sg,l,rfl,e2,e3,e4,e5⟩
  · simp at hi
  · refine ⟨.ptr id (off + i), fun kk k => ?_, fun h' k hg => ?_⟩
    · show ck (Nat.blt i b.length) (fN (Nat.add off (Nat.mul i 1)) fun o => k (.ptr id o)) = _
      rw [(QH _ _).2 hi,Zb]
      have e:Nat.add off (Nat.mul i 1)=off+i:=by show off+i * 1=off+i;omega
      rw [e];rfl
    · have e2' : h'.get id = .bytes t f sg (Str.of l) := (hg id (H.lt_of_live (by rw [e2]; rfl))).trans e2
      show ZX (h'.get id) (fun _ _ cs=>op' (Q8 cs (off+i)) fun v=>asI .u8 v k) (fun _ _ _ s=>ck (Nat.blt (off+i) s.len) (fN (s.get (off+i)) fun c=>asI .u8 (.int .u8 (Int.ofNat c)) k))=_
      rw [e2',WQ,Zb,Qa]
      have hl:off+i < l.length:=by omega
      show ck (Nat.blt (off+i) l.length) _=_
      rw [(QH _ _).2 hl,Str.get_of _ _ hl]
      have hq:b[i]?=l[off+i]?:=by
        have:b[i]?=((l.take (off+b.length)).drop off)[i]?:=by rw [e4]
        rw [this,List.getElem?_drop,List.getElem?_take,if_pos (by omega)]
      rw [List.getElem?_eq_getElem hi,List.getElem?_eq_getElem hl] at hq
      injection hq with hq
      rw [hq];rfl
theorem SlB.cut {h:H} {v:AV} {b:List UInt8} (s:SlB h v b) {i j:Nat} {lo hi:Option AV} (h1:∀ k,XY 0 lo k=k i) (h2:∀ k,XY b.length hi k=k j) (hij:i≤j) (hj:j≤b.length) {k:AV→Prop}
    (hk:∀ v',SlB h v' ((b.take j).drop i)→k v'):slK 1 v lo hi k:=by
  have el:((b.take j).drop i).length=j - i:=by rw [List.length_drop,List.length_take];omega
  rcases s with ⟨rfl,rfl⟩ | ⟨id,off,cap,ex,t,f,sg,l,rfl,e2,e3,e4,e5⟩
  · have hj : j = 0 := by simpa using hj
    have hi:i=0:=by omega
    subst hj hi
    unfold slK
    rw [W9,h1]
    have h2:∀ k,XY 0 hi k=k 0:=h2
    rw [h2]
    exact Qp rfl (Qp rfl (hk _ (.inl ⟨rfl,rfl⟩)))
  · unfold slK
    rw [Zu,h1,h2,(Qk _ _).2 (by omega:j≤cap),(Qk _ _).2 hij,Uf,Uf]
    show ck true (br (Nat.beq cap i) _ _)
    rw [Uf,Zb,Zb,Zb,Zb]
    have e0:Nat.add off (Nat.mul i 1)=off+i:=by show off+i * 1=off+i;omega
    have e1:Nat.sub j i=j - i:=rfl
    have e9:Nat.sub cap i=cap - i:=rfl
    rw [e0,e1,e9]
    refine QP (fun h0=>?_) fun h0=>?_
    · rw [Nat.beq_eq] at h0
      have hz:j - i=0:=by omega
      exact hk _ (.inr ⟨id,off,0,ex,t,f,sg,l,by rw [el],e2,by rw [el];omega,by rw [List.length_eq_zero_iff.1 (el.trans hz)];simp [hz],by rw [el];omega⟩)
    · refine hk _ (.inr ⟨id, off + i, cap - i, ex, t, f, sg, l, by rw [el], e2, by rw [el]; omega, ?_, by rw [el]; omega⟩)
      rw [el,UY l (by omega:i+(j - i)≤b.length),e4,List.drop_take]
theorem QbW (d:Nat) (k:Nat→Prop):XY d none k=k d:=rfl
theorem YT (d n:Nat) (kk:IntKind) (k:Nat→Prop):XY d (some (.int kk (Int.ofNat n))) k=k n:=rfl
theorem SlB.tail {h:H} {v:AV} {b:List UInt8} (s:SlB h v b) {i:Nat} {kk:IntKind} (hi:i≤b.length) {k:AV→Prop} (hk:∀ v',SlB h v' (b.drop i)→k v'):slK 1 v (some (.int kk (Int.ofNat i))) none k :=
  s.cut (YT 0 i kk) (QbW _) hi (Nat.le_refl _) fun v' q=>hk v' (by rw [List.take_length] at q;exact q)
theorem SlB.head {h:H} {v:AV} {b:List UInt8} (s:SlB h v b) {i:Nat} {kk:IntKind} (hi:i≤b.length) {k:AV→Prop} (hk:∀ v',SlB h v' (b.take i)→k v'):slK 1 v none (some (.int kk (Int.ofNat i))) k :=
  s.cut (QbW 0) (YT _ i kk) (Nat.zero_le _) hi hk
theorem Row.slb {g:Bool} {e n:Nat} {h:H} {v:AV} {l:List UInt8} (r:Row g e n h v l):SlB h v l:=SlB.ofRow r
theorem XA {a b:Nat} (h:ltI (Int.ofNat a) (Int.ofNat b)=true):a < b:=by have:=WK.1 h;have h2:(a:Int) < (b:Int):=this;omega
theorem XK {a b:Nat} (h:ltI (Int.ofNat a) (Int.ofNat b)=false):b≤a:=by have:=Ys.1 h;have h2:(b:Int)≤(a:Int):=this;omega
theorem add_one (i:Nat) (h:i+1 < 9223372036854775808):Qd .i64 (Int.add (Int.ofNat i) (Int.ofNat 1))=Int.ofNat (i+1):=Zi (kk:=.i64) (m:=i+1) (by show i+1 < 9223372036854775808;exact h)
theorem W5 (a b:Nat):eqI (Int.ofNat a) (Int.ofNat b)=decide (a=b):=by
  by_cases h:a=b
  · subst h;rw [decide_eq_true rfl];exact Zp.2 rfl
  · rw [decide_eq_false h,Q4];intro q;have q:(a:Int)=(b:Int):=q;omega
def uv (x:Nat):List UInt8:=if h:x < 128 then [UInt8.ofNat x] else UInt8.ofNat (x % 128+128)::uv (x / 128)
termination_by x
decreasing_by omega
theorem Yb {x:Nat} (h:x < 128):uv x=[UInt8.ofNat x]:=by rw [uv,dif_pos h]
theorem VP {x:Nat} (h:128≤x):uv x=UInt8.ofNat (x % 128+128)::uv (x / 128):=by rw [uv,dif_neg (by omega)]
theorem Qd4:∀ (n x:Nat),x < 128 ^ (n+1)→(uv x).length≤n+1
  | 0,x,h=>by rw [Yb (by simpa using h)];simp
  | n + 1, x, h => by
    by_cases h1:x < 128
    · rw [Yb h1];simp
    · rw [VP (by omega), List.length_cons]
      have:=Qd4 n (x / 128) (by rw [Nat.div_lt_iff_lt_mul (by decide)];rw [Nat.pow_succ] at h;exact h)
      omega
theorem Ju {a b:Nat} (ha:a < 256) (hb:b < 256) (h:UInt8.ofNat a=UInt8.ofNat b):a=b:=by
  have:=congrArg UInt8.toNat h
  simp at this;omega
theorem WD {a:Nat} (ha:a < 256):(UInt8.ofNat a).toNat=a:=by simp;omega
theorem uv_ne (x:Nat):uv x≠[]:=by
  by_cases h:x < 128
  · rw [Yb h];simp
  · rw [VP (by omega)];simp
theorem Qd3:∀ {x y:Nat} {s t:List UInt8},uv x++s=uv y++t→x=y∧s=t:=by
  intro x
  induction x using Nat.strongRecOn with
  | ind x ih =>
    intro y s t h
    by_cases hx:x < 128 <;> by_cases hy:y < 128
    · rw [Yb hx, Yb hy] at h
      injection h with h1 h2
      exact ⟨Ju (by omega) (by omega) h1,h2⟩
    · rw [Yb hx, VP (x := y) (by omega)] at h
      injection h with h1 h2
      have:=Ju (by omega) (by omega) h1;omega
    · rw [VP (x := x) (by omega), Yb hy] at h
      injection h with h1 h2
      have:=Ju (by omega) (by omega) h1;omega
    · rw [VP (x := x) (by omega), VP (x := y) (by omega)] at h
      injection h with h1 h2
      have h1:=Ju (by omega) (by omega) h1
      obtain ⟨h3,h4⟩:=ih (x / 128) (by omega) h2
      exact ⟨by omega,h4⟩
theorem landn128:∀ b,b < 256→ND .u8 (Int.ofNat b) (Int.ofNat 128)=Int.ofNat (b % 128):=by decide +kernel
theorem QcH {v:Nat} {r:List UInt8} {c:UInt8} {tail:List UInt8} (h:c::r=uv v++tail):(v < 128→c.toNat=v∧r=tail)∧(128≤v→c.toNat=v % 128+128∧r=uv (v / 128)++tail):=by
  refine ⟨fun hv=>?_,fun hv=>?_⟩
  · rw [Yb hv] at h; injection h with h1 h2
    exact ⟨by rw [h1,WD (by omega)],h2⟩
  · rw [VP hv] at h; injection h with h1 h2
    exact ⟨by rw [h1,WD (by omega)],h2⟩
theorem QcG {v:Nat} (h:v < 128):(uv v).length=1:=by rw [Yb h];rfl
theorem uv_len2 {v:Nat} (h:128≤v):(uv v).length=1+(uv (v / 128)).length:=by rw [VP h,List.length_cons,Nat.add_comm]
theorem pow128 (i:Nat) (h:9≤i):9223372036854775808≤128 ^ i:=by
  have h1:(128:Nat) ^ 9≤128 ^ i:=Nat.pow_le_pow_right (by decide) h
  have h2:(128:Nat) ^ 9=9223372036854775808:=by decide
  omega
theorem GF {a b:Nat} (h:a≤b):Y2 a b=a:=by
  unfold Y2;rw [(Qk a b).2 h]
theorem QcK {m:Nat} (h:m < 18446744073709551616):toU .u64 (Int.ofNat m)=m:=Nat.mod_eq_of_lt (by show m < 18446744073709551616;exact h)
theorem or_pow {x d i:Nat} (hi:i≤9) (hx:x < 128 ^ i) (hd:d * 128 ^ i+x < 18446744073709551616):Uv .u64 (Int.ofNat x) (VQ .u64 (Int.ofNat d) (7 * i))=Int.ofNat (d * 128 ^ i+x):=by
  have e0:(2:Nat) ^ (7 * i)=128 ^ i:=by rw [Nat.pow_mul]
  have e1:VQ .u64 (Int.ofNat d) (7 * i)=Int.ofNat (d * 128 ^ i):=by
    unfold VQ
    rw [GF (by show 7 * i≤64;omega)]
    have e2:Nat.shiftLeft 1 (7 * i)=128 ^ i:=by
      show 1 <<< (7 * i)=_
      rw [Nat.shiftLeft_eq,e0,Nat.one_mul]
    rw [e2]
    exact Zi (kk:=.u64) (m:=d * 128 ^ i) (by show d * 128 ^ i < 18446744073709551616;omega)
  rw [e1]
  unfold Uv
  rw [QcK (by omega),QcK (by omega)]
  have e:Nat.lor x (d * 128 ^ i)=d * 128 ^ i+x:=by
    have:=Nat.shiftLeft_add_eq_or_of_lt (i:=7 * i) (b:=x) (by rw [e0];exact hx) d
    rw [Nat.shiftLeft_eq,e0] at this
    rw [this];exact Nat.or_comm _ _
  rw [e]
  exact Zi (kk:=.u64) (by show d * 128 ^ i+x < 18446744073709551616;exact hd)
theorem uv_up (c y:Nat) (hc:c < 128) (hy:1≤y):uv (c+128 * y)=UInt8.ofNat (c+128)::uv y:=by
  rw [VP (by omega)]
  have e1:(c+128 * y) % 128=c:=by omega
  have e2:(c+128 * y) / 128=y:=by omega
  rw [e1,e2]
theorem drop_cons {s:List UInt8} {i:Nat} (h:i < s.length):s.drop i=s[i]::s.drop (i+1):=by rw [List.drop_eq_getElem_cons h]
theorem take_snoc {m:List UInt8} {i:Nat} (h:i < m.length):m.take (i+1)=m.take i++[m[i]]:=by rw [List.take_succ_eq_append_getElem h]
abbrev Wt:=List UInt8 × List UInt8 × Bool
def wrc (t:Wt):List AV:=[.str (Str.of t.1),.str (Str.of t.2.1),.bool t.2.2]
theorem Js (t:Wt):(wrc t).length=3:=rfl
end Go.Am
namespace Go.Proofs.YtfgdelkdmdmfgaaDoor
open Go Go.Am
set_option linter.all false
set_option maxRecDepth 100000
theorem t27 {x:Nat} {b:List UInt8} {h:H} {a:AV} (hx:x < 9223372036854775808) (s:SlB h a b) (hb:h.base≤h.next) (hl:b.length≤140000000000000) {K:AV→H→Prop} (hk:∀ v h',Row true 5 h.next h' v (b++uv x)→Low h.next h h'→K v h'):Qaj J0 a (Int.ofNat x) h K:=by
  unfold Qaj
  refine YZ (Row.nil true 5 h.next h) hb (Nat.le_refl _) (s.src 5) (by simp [Qe];omega) fun v0 h0 r0 l0=>?_
  refine W0 (fun n v d h'=>∃ y row done,v=(.int .u64 (Int.ofNat y),row,())∧d=[]∧done++uv y=uv x∧y < 128 ^ (n+1)∧done.length+n≤9∧Row true 5 h.next h' row (b++done)∧Low h.next h h') ?_ (n:=9) (by unfold fuel;omega) ⟨x,v0,[],rfl,rfl,rfl,Nat.lt_trans hx (by decide),by simp,by simpa using r0,l0⟩
  rintro n self v d h' ⟨y,row,done,rfl,rfl,hd,hy,hn,hr,lo⟩ hs
  have n1:=lo.next
  have b1:=lo.base
  simp only [Qa,Qo,Qg]
  refine QP (fun hc=>?_) (fun hc=>?_)
  · have hy1 : 128 ≤ y := XK (not_true.1 hc)
    rw [or128_bI]
    refine Qfe (m:=[UInt8.ofNat (y % 128+128)]) hr (by omega) n1 (by simp [Qe];omega) fun v1 h1 r1 l1=>?_
    obtain ⟨n,rfl⟩:∃ n',n=n'+1:=by
      cases n with
      | zero=>simp at hy;omega
      | succ n=>exact ⟨n,rfl⟩
    have e7:Ve (Int.ofNat y) (Y2 7 (IntKind.bits .u64))=Int.ofNat (y / 128):=by
      show Int.ofNat (y >>> 7)=_
      rw [Nat.shiftRight_eq_div_pow]
    rw [e7]
    refine hs n _ _ _ (by omega) ⟨y / 128,v1,done++[UInt8.ofNat (y % 128+128)],rfl,rfl,?_,?_,by simp;omega,by rw [← List.append_assoc];exact r1,lo.trans l1⟩
    · rw [← hd,VP hy1];simp
    · rw [Nat.div_lt_iff_lt_mul (by decide)];rw [Nat.pow_succ] at hy;exact hy
  · have hy1 : y < 128 := XA (ZT.1 hc)
    rw [ofNat_bI]
    refine Qfe (m:=[UInt8.ofNat y]) hr (by omega) n1 (by simp [Qe];omega) fun v1 h1 r1 l1=>?_
    refine hk _ _ ?_ (lo.trans l1)
    rw [← hd,Yb hy1,← List.append_assoc];exact r1
theorem JX {x:Nat} (h:x < 18446744073709551616):(uv x).length≤10:=Qd4 9 x (Nat.lt_trans h (by decide))
theorem t28 {b s:List UInt8} {h:H} {a:AV} (q:SlB h a b) (hb:h.base≤h.next) (hl:b.length≤100000000000000) (hs:s.length≤10000000000000) {K:AV→H→Prop} (hk:∀ v h',Row true 5 h.next h' v (b++uv s.length++s)→Low h.next h h'→K v h'):QdO J0 (Qaj J0) a (Str.of s) h K:=by
  unfold QdO
  rw [Qo,Ws,Zi (kk:=.u64) (by show s.length < 18446744073709551616;omega)]
  refine t27 (by omega) q hb (by omega) fun v h1 r l=>?_
  have:=JX (x:=s.length) (by omega)
  exact ap_str (m:=s) r (by rw [l.base];exact hb) l.next (by rw [List.length_append];unfold Qe;omega) fun v' h2 r2 l2=>hk _ _ r2 (l.trans l2)
end Go.Proofs.YtfgdelkdmdmfgaaDoor
