/- (*FS).Left: how many bytes there is room for, whatever the order of the names. -/
import Derived.Test.YtcohflkjinpcpaaGreatDoorAmS3
import Derived.Test.YtcohflkjinpcpaaGreatDoorAmL7
import Derived.Test.YtcohflkjinpcpaaGreatDoorAmL7
namespace Go.Proofs.YtcohflkjinpcpaaGreatDoor
open Go Go.Am
set_option linter.all false
/-- the length of what a name's file holds; p: the tree -/
noncomputable def lenOf' (p : AV) (h : H) (v : AV) (k : Nat → Prop) : Prop :=
  asI .i64 v fun x => faK 0 p fun p28 => ldV p28 h fun v29 => op' (aLookup ty 3 25 false v29 (AV.int .i64 x) h) fun v30 => lenK v30 k
noncomputable def lenOf (p : AV) (h : H) (v : AV) (k : Nat → Prop) : Prop :=
  asI .i64 v fun x => faP 0 p fun p28 => ldP p28 h fun v29 => op' (aLookup ty 3 25 false v29 (AV.int .i64 x) h) fun v30 => lenK v30 k
theorem lenOf_up {p : AV} {h : H} {v : AV} {k : Nat → Prop} (q : lenOf p h v k) : lenOf' p h v k := by
  unfold lenOf at q; unfold lenOf'
  rw [asI_iff] at q ⊢
  obtain ⟨x, rfl, q⟩ := q
  exact ⟨x, rfl, Go.Am.faK_mono (fun p28 q => ldP_up q) (faP_up q)⟩
def lenIs (p : AV) (h : H) (v : AV) (n : Nat) : Prop := lenOf p h v fun m => m = n
theorem lenOf_iff {p : AV} {h : H} {v : AV} {k : Nat → Prop} : lenOf p h v k ↔ ∃ n, lenIs p h v n ∧ k n := by
  simp only [lenIs, lenOf, asI_iff, faP, Go.Am.asPtr_iff, fN_eq, ldP, op'_iff, lenK, asSl_iff, asRow'_iff, ck_iff]
  constructor
  · rintro ⟨x, rfl, i, o, rfl, i', o', q, h1⟩
    rcases h1 with ⟨m, t, cs, g, a, ga, b, gb, h2⟩ | ⟨t, f, g, s, h1, h2, b, gb, h3⟩
    · rcases h2 with ⟨e, h2⟩ | ⟨_, _, l, _, _, _, e, h2⟩
      · exact ⟨0, ⟨x, rfl, i, o, rfl, i', o', q, .inl ⟨m, t, cs, g, a, ga, b, gb, .inl ⟨e, rfl⟩⟩⟩, h2⟩
      · exact ⟨l, ⟨x, rfl, i, o, rfl, i', o', q, .inl ⟨m, t, cs, g, a, ga, b, gb, .inr ⟨_, _, l, _, _, _, e, rfl⟩⟩⟩, h2⟩
    · rcases h3 with ⟨e, h3⟩ | ⟨_, _, l, _, _, _, e, h3⟩
      · exact ⟨0, ⟨x, rfl, i, o, rfl, i', o', q, .inr ⟨t, f, g, s, h1, h2, b, gb, .inl ⟨e, rfl⟩⟩⟩, h3⟩
      · exact ⟨l, ⟨x, rfl, i, o, rfl, i', o', q, .inr ⟨t, f, g, s, h1, h2, b, gb, .inr ⟨_, _, l, _, _, _, e, rfl⟩⟩⟩, h3⟩
  · rintro ⟨n, ⟨x, rfl, i, o, rfl, i', o', q, h1⟩, hk⟩
    refine ⟨x, rfl, i, o, rfl, i', o', q, ?_⟩
    rcases h1 with ⟨m, t, cs, g, a, ga, b, gb, h2⟩ | ⟨t, f, g, s, h1, h2, b, gb, h3⟩
    · refine .inl ⟨m, t, cs, g, a, ga, b, gb, ?_⟩
      rcases h2 with ⟨e, rfl⟩ | ⟨_, _, l, _, _, _, e, rfl⟩
      · exact .inl ⟨e, hk⟩
      · exact .inr ⟨_, _, l, _, _, _, e, hk⟩
    · refine .inr ⟨t, f, g, s, h1, h2, b, gb, ?_⟩
      rcases h3 with ⟨e, rfl⟩ | ⟨_, _, l, _, _, _, e, rfl⟩
      · exact .inl ⟨e, hk⟩
      · exact .inr ⟨_, _, l, _, _, _, e, hk⟩
noncomputable def foldOff (p : AV) (h : H) (l : List (AV × AV)) : Int → (Int → Prop) → Prop :=
  List.rec (motive := fun _ => Int → (Int → Prop) → Prop) (fun n k => k n) (fun e _ ih n k => lenOf p h e.2 fun x => fI (wrapF .i64 (Int.sub n (Int.ofNat x))) fun n' => ih n' k) l
theorem lenIs_fun {p : AV} {h : H} {v : AV} {n m : Nat} (h1 : lenIs p h v n) (h2 : lenIs p h v m) : n = m := by
  simp only [lenIs, lenOf, asI_iff, faP, Go.Am.asPtr_iff, fN_eq, ldP, op'_iff, lenK, asSl_iff] at h1 h2
  obtain ⟨x, rfl, i, o, rfl, i', o', q, h1⟩ := h1
  obtain ⟨x2, e2, i2, o2, e3, i2', o2', q2, h2⟩ := h2
  cases e2; cases e3; cases q; cases q2
  rw [asRow'_iff] at h1 h2
  rcases h1 with ⟨m1, t1, cs1, g1, a1, ga1, b1, gb1, h1⟩ | ⟨t1, f1, gg1, s1, g1, h1⟩ <;> rcases h2 with ⟨m2, t2, cs2, g2, a2, ga2, b2, gb2, h2⟩ | ⟨t2, f2, gg2, s2, g2, h2⟩ <;> (rw [g1] at g2; cases g2)
  · rw [ga1] at ga2; cases ga2
    rw [gb1] at gb2; cases gb2
    rcases h1 with ⟨e, h1⟩ | ⟨_, _, l, _, _, _, e, h1⟩ <;> rcases h2 with ⟨e', h2⟩ | ⟨_, _, l', _, _, _, e', h2⟩ <;> (rw [e] at e'; cases e') <;> omega
  · simp only [ck_iff, op'_iff, asSl_iff, fN_eq] at h1 h2
    obtain ⟨_, b1, gb1, h1⟩ := h1
    obtain ⟨_, b2, gb2, h2⟩ := h2
    rw [gb1] at gb2; cases gb2
    rcases h1 with ⟨e, h1⟩ | ⟨_, _, l, _, _, _, e, h1⟩ <;> rcases h2 with ⟨e', h2⟩ | ⟨_, _, l', _, _, _, e', h2⟩ <;> (rw [e] at e'; cases e') <;> omega
theorem foldOff_imp {p : AV} {h : H} : ∀ {l : List (AV × AV)} {n : Int} {k : Int → Prop}, foldOff p h l n k → (∀ e ∈ l, ∃ x, lenIs p h e.2 x) ∧ ∀ f : AV × AV → Nat, (∀ e ∈ l, lenIs p h e.2 (f e)) → k (takeOff n (l.map fun e => Int.ofNat (f e)))
  | [], n, k, q => ⟨(fun e he => by cases he), fun _ _ => q⟩
  | e :: l, n, k, q => by
    have q : lenOf p h e.2 fun x => fI (wrapF .i64 (Int.sub n (Int.ofNat x))) fun n' => foldOff p h l n' k := q
    rw [lenOf_iff] at q
    obtain ⟨x, hx, q⟩ := q
    rw [fI_eq] at q
    obtain ⟨h1, h2⟩ := foldOff_imp (l := l) q
    refine ⟨fun e' he' => ?_, fun f hf => ?_⟩
    · rcases List.mem_cons.1 he' with rfl | he'
      · exact ⟨x, hx⟩
      · exact h1 e' he'
    · have : f e = x := lenIs_fun (hf e List.mem_cons_self) hx
      rw [List.map_cons, this]
      exact h2 f fun e' he' => hf e' (List.mem_cons_of_mem _ he')
/-- a round of the loop in Left -/
noncomputable def body66 (G : Gam) (k : Int → H → Prop) : (AV × AV × AV × Unit → List Dfr → H → Prop) → AV × AV × AV × Unit → List Dfr → H → Prop := fun r18 v15 d16 h17 =>
  aNext v15.2.2.1 h17 fun v19 h20 =>
  asTup v19 fun l21 =>
  op' (lgetO l21 0) fun v22 =>
  asB v22 fun b23 =>
  br b23 (
  op' (aEntry v15.2.2.1 h20) fun v24 =>
  asTup v24 fun l25 =>
  op' (lgetO l25 1) fun v26 =>
  asI .i64 v26 fun x27 =>
  faK 0 v15.1 fun p28 =>
  ldV p28 h20 fun v29 =>
  op' (aLookup ty 3 25 false v29 (AV.int .i64 x27) h20) fun v30 =>
  lenK v30 fun x31 =>
  asI .i64 v15.2.1 fun x32 =>
  fI (wrapF .i64 (Int.sub x32 (Int.ofNat x31))) fun x33 =>
  r18 (v15.1, (AV.int .i64 x33), v15.2.2.1, ()) d16 h20) (
  leaveK G d16 h20 fun h34 =>
  asI .i64 v15.2.1 fun x35 =>
  k x35 h34)
theorem body66_is (G : Gam) (k : Int → H → Prop) (self : AV × AV × AV × Unit → List Dfr → H → Prop) (p it : AV) (n : Int) (h : H)
    : body66 G k self (p, AV.int .i64 n, it, ()) [] h = aNext it h fun v19 h20 => asTup v19 fun l21 => op' (lgetO l21 0) fun v22 => asB v22 fun b23 => br b23 (
        op' (aEntry it h20) fun v24 => asTup v24 fun l25 => op' (lgetO l25 1) fun v26 => lenOf' p h20 v26 fun x31 => fI (wrapF .i64 (Int.sub n (Int.ofNat x31))) fun x33 => self (p, AV.int .i64 x33, it, ()) [] h20) (k n h20) := by
  kernel_rfl
/-- heap h: as hB, but that map m is shown as es, and r is an iterator -/
structure Shows (m r : Nat) (es0 : List (AV × AV)) (es : List (AV × AV × Nat)) (clock : Nat) (hB h : H) : Prop where
  was : hB.get m = .smap es0
  free : hB.get r = .dead
  mp : h.get m = .amap es clock
  shown : Shown es0 es clock
  same : ∀ id, id ≠ m → id ≠ r → h.get id = hB.get id
theorem Shows.look {m r : Nat} {es0 : List (AV × AV)} {es : List (AV × AV × Nat)} {clock : Nat} {hB h : H} (s : Shows m r es0 es clock hB h) {T : Ty} {kt e : Nat} {ok : Bool} {x i v : AV} (q : aLookup T kt e ok x i hB = some v) : aLookup T kt e ok x i h = some v := by
  unfold aLookup at q ⊢
  split at q
  · exact q
  · rename_i id
    by_cases h1 : id = m
    · subst h1
      rw [s.was] at q; rw [s.mp]
      exact aLookC_imp s.shown q
    · by_cases h2 : id = r
      · subst h2; rw [s.free] at q; cases q
      · rw [s.same id h1 h2]; exact q
  · cases q
theorem Shows.row {m r : Nat} {es0 : List (AV × AV)} {es : List (AV × AV × Nat)} {clock : Nat} {hB h : H} (s : Shows m r es0 es clock hB h) {p : AV} {k : AV → Prop} (q : ldP p hB k) : ldP p h k := by
  unfold ldP at q ⊢
  rw [Go.Am.asPtr_iff] at q ⊢
  obtain ⟨i, o, rfl, q⟩ := q
  refine ⟨i, o, rfl, ?_⟩
  by_cases h1 : i = m
  · subst h1; rw [s.was] at q; exact q.elim
  · by_cases h2 : i = r
    · subst h2; rw [s.free] at q; exact q.elim
    · rw [s.same i h1 h2]; exact q
theorem Shows.len {m r : Nat} {es0 : List (AV × AV)} {es : List (AV × AV × Nat)} {clock : Nat} {hB h : H} (s : Shows m r es0 es clock hB h) {p v : AV} {n : Nat} (q : lenIs p hB v n) : lenIs p h v n := by
  unfold lenIs lenOf at q ⊢
  rw [asI_iff] at q ⊢
  obtain ⟨x, rfl, q⟩ := q
  refine ⟨x, rfl, ?_⟩
  simp only [faP, Go.Am.asPtr_iff] at q ⊢
  obtain ⟨i, o, rfl, q⟩ := q
  refine ⟨i, o, rfl, ?_⟩
  rw [fN_eq] at q ⊢
  have := s.row q
  unfold ldP at this ⊢
  rw [Go.Am.asPtr_iff] at this ⊢
  obtain ⟨i, o, e, this⟩ := this
  refine ⟨i, o, e, ?_⟩
  rw [asRow'_iff] at this ⊢
  rcases this with ⟨m1, t1, cs1, g1, h1⟩ | ⟨t1, f1, gg1, s1, g1, h1⟩
  · refine .inl ⟨m1, t1, cs1, g1, ?_⟩
    rw [op'_iff] at h1 ⊢
    obtain ⟨a, ga, h1⟩ := h1
    refine ⟨a, ga, ?_⟩
    rw [op'_iff] at h1 ⊢
    obtain ⟨b, gb, h1⟩ := h1
    exact ⟨b, s.look gb, h1⟩
  · refine .inr ⟨t1, f1, gg1, s1, g1, ?_⟩
    rw [ck_iff] at h1 ⊢
    refine ⟨h1.1, ?_⟩
    have h1 := h1.2
    rw [fN_eq, op'_iff] at h1 ⊢
    obtain ⟨b, gb, h1⟩ := h1
    exact ⟨b, s.look gb, h1⟩
/-- the heap behind the loop -/
structure Over (m r : Nat) (es0 : List (AV × AV)) (hB h : H) : Prop where
  mp : h.get m = .smap es0
  it : h.get r = .dead
  same : ∀ id, id ≠ m → id ≠ r → h.get id = hB.get id
  next : h.next = r + 1
  base : h.base = hB.base
theorem loop66 {G : Gam} {k : Int → H → Prop} {m r : Nat} {es0 : List (AV × AV)} {es : List (AV × AV × Nat)} {clock : Nat} {hB : H} {p : AV} {f : AV × AV → Nat} (hf : ∀ e ∈ es0, lenIs p hB e.2 (f e)) (hbm : hB.base ≤ m) (hbr : hB.base ≤ r) (hmr : m < r) :
    ∀ (c j : Nat), c < j → ∀ (seen : List Nat) (n : Int) (h : H), Shows m r es0 es clock hB h → h.get r = .miter (some m) clock seen clock → h.base = hB.base → h.next = r + 1 → (rest seen es).length = c →
    (∀ h2, Over m r es0 hB h2 → k (takeOff n ((rest seen es).map fun e => Int.ofNat (f (e.1, e.2.1)))) h2) → loopN (body66 G k) j (p, AV.int .i64 n, .ptr r 0, ()) [] h := by
  intro c
  induction c with
  | zero =>
    intro j hj seen n h s hit hb hn hc hk
    obtain ⟨j, rfl⟩ : ∃ j', j = j' + 1 := ⟨j - 1, by omega⟩
    show body66 G k (loopN (body66 G k) j) _ [] h
    rw [body66_is]
    have hnil : rest seen es = [] := List.length_eq_zero_iff.1 hc
    have it : Iter m r es0 es clock seen h := ⟨s.mp, hit, s.shown⟩
    refine it.next (fun e he hs => ?_) fun _ => ?_
    · have : e ∈ rest seen es := by unfold rest; rw [List.mem_filter]; exact ⟨he, by simpa using hs⟩
      rw [hnil] at this; cases this
    · obtain ⟨h1, p1⟩ := put_ok (h := h) (i := m) (.smap es0) (by omega) (by omega)
      obtain ⟨_, _, n1, b1, g1⟩ := hput_get p1
      obtain ⟨h2, p2⟩ := put_ok (h := h1) (i := r) .dead (by omega) (by omega)
      obtain ⟨_, _, n2, b2, g2⟩ := hput_get p2
      refine ⟨h1, h2, p1, p2, ?_⟩
      rw [Go.Am.asTup_iff]
      refine ⟨_, rfl, ?_⟩
      show k n h2
      have := hk h2 ⟨by rw [g2, if_neg (by omega), g1, if_pos rfl], by rw [g2, if_pos rfl], fun id i1 i2 => by rw [g2, if_neg i2, g1, if_neg i1]; exact s.same id i1 i2, by omega, by omega⟩
      rw [hnil] at this; exact this
  | succ c ih =>
    intro j hj seen n h s hit hb hn hc hk
    obtain ⟨j, rfl⟩ : ∃ j', j = j' + 1 := ⟨j - 1, by omega⟩
    show body66 G k (loopN (body66 G k) j) _ [] h
    rw [body66_is]
    have it : Iter m r es0 es clock seen h := ⟨s.mp, hit, s.shown⟩
    refine it.next (fun e he hs => ?_) fun hall => ?_
    · obtain ⟨h1, p1⟩ := put_ok (h := h) (i := r) (.miter (some m) clock (seen ++ [e.2.2]) clock) (by omega) (by omega)
      obtain ⟨_, _, n1, b1, g1⟩ := hput_get p1
      refine ⟨h1, p1, ?_⟩
      have hp := rest_step s.shown.stamps he hs
      have s1 : Shows m r es0 es clock hB h1 := ⟨s.was, s.free, by rw [g1, if_neg (by omega)]; exact s.mp, s.shown, fun id i1 i2 => by rw [g1, if_neg i2]; exact s.same id i1 i2⟩
      have he0 : (e.1, e.2.1) ∈ es0 := s.shown.perm.mem_iff.1 (List.mem_map.2 ⟨e, he, rfl⟩)
      rw [Go.Am.asTup_iff]
      refine ⟨_, rfl, ?_⟩
      show op' (aEntry (.ptr r 0) h1) _
      rw [op'_iff]
      refine ⟨_, (it.step p1).entry he, ?_⟩
      rw [Go.Am.asTup_iff]
      refine ⟨_, rfl, ?_⟩
      show lenOf' p h1 e.2.1 _
      refine lenOf_up ?_
      rw [lenOf_iff]
      refine ⟨_, s1.len (hf _ he0), ?_⟩
      rw [fI_eq]
      refine ih j (by omega) (seen ++ [e.2.2]) _ h1 s1 (by rw [g1, if_pos rfl]) (by omega) (by omega) (by have := hp.length_eq; simp at this; omega) fun h2 o2 => ?_
      have := hk h2 o2
      rw [takeOff_perm ((hp.map _))] at this
      exact this
    · rw [rest_nil hall] at hc; cases hc
noncomputable def smK (v : AV) (h : H) (k : Nat → List (AV × AV) → Prop) : Prop :=
  match v with
  | .map id => match h.get id with
    | .smap es => k id es
    | _ => False
  | _ => False
theorem smK_imp {v : AV} {h : H} {k : Nat → List (AV × AV) → Prop} (e : smK v h k) : ∃ id es, v = .map id ∧ h.get id = .smap es ∧ k id es := by
  unfold smK at e
  split at e
  · rename_i id
    split at e
    · rename_i es hg; exact ⟨id, es, rfl, hg, e⟩
    · exact e.elim
  · exact e.elim
/-- Left, as it may be run -/
noncomputable def s66' (a0 : AV) (h : H) (k : Int → H → Prop) : Prop :=
s81 a0 AV.nils h fun x2 h1 =>
fB (Bool.not (eqI x2 (Int.ofNat 0))) fun b3 =>
br b3 (
k (Int.ofNat 0) h1) (
okNil a0 (
faK 3 a0 fun p4 =>
ldI .i64 p4 h1 fun x5 =>
pushK (.cells false 76 [(.nilm), (.nilm)]) h1 fun n6 h7 =>
s79 a0 h7 fun v9 h8 =>
ck (readsSo (aLoad1 p4 h8) (AV.int .i64 x5)) (
Go.Am.asAgg v9 fun l11 =>
stN 2 (AV.ptr n6 0) l11 h8 fun h10 =>
ck (readsSo (aLoad1 p4 h10) (AV.int .i64 x5)) (
ldV (AV.ptr n6 1) h10 fun v12 =>
smK v12 h10 fun m es =>
ck (Nat.ble h10.base m) (ck (Nat.ble es.length 1000000) (
foldOff (AV.ptr n6 0) h10 es x5 fun n => pushK .dead h10 fun _ h' => k n h'))))))
/-- the loop, and what is behind it -/
theorem tail66 {G : Gam} {h10 : H} {n6 m : Nat} {es : List (AV × AV)} {x5 : Int} {k : Int → H → Prop} {N : Nat} (hg : h10.get m = .smap es) (hb : h10.base ≤ m) (hl : es.length ≤ 1000000)
    (q : foldOff (AV.ptr n6 0) h10 es x5 fun n => pushK .dead h10 fun _ h' => k n h') :
    aRangeK (.map m) h10 fun v13 h14 => J0.lp (body66 G fun r h1 => ∃ h2, Deader N h1 h2 ∧ k r h2) (AV.ptr n6 0, AV.int .i64 x5, v13, ()) [] h14 := by
  obtain ⟨h1, h2⟩ := foldOff_imp q
  have hml : m < h10.next := H.lt_of_live (by rw [hg]; rfl)
  have hw : h10.Wf := ⟨by omega⟩
  have hwl := hw.low
  unfold aRangeK
  simp only [hg]
  intro es' clock hs
  obtain ⟨ha, pa⟩ := put_ok (h := h10) (i := m) (.amap es' clock) hml hb
  obtain ⟨_, _, na, ba, ga⟩ := hput_get pa
  obtain ⟨hc, pc⟩ := push_ok ha (.miter (some m) clock [] clock)
  have hwa : ha.Wf := ⟨by omega⟩
  obtain ⟨_, nc, bc, _, gc⟩ := H.push_some pc hwa
  simp only [pa, pc]
  rw [J0.lp_ok]
  classical
  have hf : ∃ f : AV × AV → Nat, ∀ e ∈ es, lenIs (AV.ptr n6 0) h10 e.2 (f e) :=
    ⟨fun e => if he : ∃ x, lenIs (AV.ptr n6 0) h10 e.2 x then he.choose else 0, fun e he => by simp only [dif_pos (h1 e he)]; exact (h1 e he).choose_spec⟩
  obtain ⟨f, hf⟩ := hf
  have hr : h10.get ha.next = .dead := H.get_of_le (by omega)
  refine loop66 (es0 := es) (es := es') (clock := clock) (hB := h10) hf hb (by omega) (by omega) es'.length fuel ?_ [] x5 hc ⟨hg, hr, ?_, hs, fun id i1 i2 => ?_⟩ ?_ (by omega) (by omega) (by rw [rest_all]) fun hz o => ?_
  · have := hs.length; unfold fuel; omega
  · rw [gc, if_neg (by omega), ga, if_pos rfl]
  · rw [gc, if_neg i2, ga, if_neg i1]
  · rw [gc, if_pos rfl]
  · have := h2 f hf
    rw [pushK_iff] at this
    obtain ⟨n, h', p', this⟩ := this
    obtain ⟨_, n', b', _, g'⟩ := H.push_some p' hw
    have hall : ∀ id, h'.get id = hz.get id := fun id => by
      rw [g']
      by_cases i1 : id = m
      · subst i1; rw [if_neg (by omega), o.mp, hg]
      · by_cases i2 : id = ha.next
        · subst i2; rw [if_pos (by omega), o.it]
        · rw [if_neg (by omega), o.same id i1 i2]
    refine ⟨h', ⟨by rw [n', o.next]; omega, by rw [b', o.base], fun id _ => hall id, fun id _ => .inl (hall id)⟩, ?_⟩
    rw [rest_all]
    have hp := takeOff_perm ((hs.perm.map fun e => Int.ofNat (f e))) x5
    rw [List.map_map] at hp
    show k (takeOff x5 (es'.map ((fun e => Int.ofNat (f e)) ∘ fun e => (e.1, e.2.1)))) h'
    rw [hp]; exact this
theorem okNil_mono1 {v : AV} {p p' : Prop} (h : okNil v p) (hp : p → p') : okNil v p' := by
  cases v <;> first | exact h.elim | exact hp h | skip
  rename_i fn _ _
  cases fn <;> first | exact h.elim | exact hp h
theorem ldV_mono1 {p : AV} {h : H} {k k' : AV → Prop} (q : ldV p h k) (hk : ∀ v, k v → k' v) : ldV p h k' := Go.Am.ldV_mono hk q
theorem ldI_mono1 {kk : IntKind} {p : AV} {h : H} {k k' : Int → Prop} (q : ldI kk p h k) (hk : ∀ v, k v → k' v) : ldI kk p h k' :=
  ldV_mono1 q fun v q => by rw [asI_iff] at q ⊢; obtain ⟨n, e, q⟩ := q; exact ⟨n, e, hk _ q⟩
theorem stN_mono1 {n : Nat} {p : AV} {l : List AV} {h : H} {k k' : H → Prop} (q : stN n p l h k) (hk : ∀ h', k h' → k' h') : stN n p l h k' := by
  unfold stN at q ⊢
  rw [Go.Am.asPtr_iff] at q ⊢
  obtain ⟨i, o, e, q⟩ := q
  refine ⟨i, o, e, ?_⟩
  rw [asRow'_iff] at q ⊢
  rcases q with ⟨m, t, cs, g, q⟩ | ⟨t, f, g, s, g', q⟩
  · refine .inl ⟨m, t, cs, g, ?_⟩
    rw [ck_iff, ck_iff, op'_iff] at q ⊢
    obtain ⟨q1, q2, a, ga, q⟩ := q
    rw [putK_iff] at q
    obtain ⟨h', p1, q⟩ := q
    refine ⟨q1, q2, a, ga, ?_⟩
    rw [putK_iff]; exact ⟨h', p1, hk _ q⟩
  · exact q.elim
theorem s66'_imp {a0 : AV} {h : H} {k : Int → H → Prop} {N : Nat} (q : s66' a0 h k) : s66G J0 up79 up81 a0 h fun r h1 => ∃ h2, Deader N h1 h2 ∧ k r h2 := by
  unfold s66G
  refine ⟨_, q, fun x2 h1 q => ?_⟩
  rw [fB_eq] at q ⊢
  rw [br_iff] at q ⊢
  rcases q with ⟨c, q⟩ | ⟨c, q⟩
  · exact .inl ⟨c, h1, .refl _ _, q⟩
  · refine .inr ⟨c, ?_⟩
    refine okNil_mono1 q fun q => ?_
    refine Go.Am.faK_mono (fun p4 q => ?_) q
    refine ldI_mono1 q fun x5 q => ?_
    rw [pushK_eq] at q ⊢
    refine ⟨_, q, fun v9 h8 q => ?_⟩
    rw [ck_iff] at q ⊢
    refine ⟨q.1, ?_⟩
    have q := q.2
    rw [Go.Am.asAgg_iff] at q ⊢
    obtain ⟨l, e2, q⟩ := q
    refine ⟨l, e2, stN_mono1 q fun h10 q => ?_⟩
    rw [ck_iff] at q ⊢
    refine ⟨q.1, ldV_mono1 q.2 fun v12 q => ?_⟩
    obtain ⟨m, es, rfl, hg, q⟩ := smK_imp q
    rw [ck_iff, ck_iff, ble_iff, ble_iff] at q
    exact tail66 hg q.1 q.2.1 q.2.2
noncomputable def g66' : Fun := w66 s66'
theorem g66'_ok : FunOk Tryz.prog 66 g66' :=
  (fun_ok ty_ok mixed (gam_ok (J := J0) (tab_cons up79_ok (tab_cons up81_ok (tab_nil fls_fun)))) Tryz.func66 (fun args w => by simp)).deader fun xs h k _ e0 => by
    obtain ⟨a0, xs0, rfl, e1⟩ := arg_imp e0
    obtain ⟨rfl, e2⟩ := noArg_imp e1
    exact (s66_eq J0 up79 up81 a0 h _).mpr (s66'_imp e2)
end Go.Proofs.YtcohflkjinpcpaaGreatDoor
