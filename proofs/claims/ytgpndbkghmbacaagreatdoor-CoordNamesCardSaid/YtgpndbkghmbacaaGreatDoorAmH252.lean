/- (*writer).stmt: the word of a column's kind, whatever the order in which the map of kinds is gone over. -/
import Derived.Test.YtgpndbkghmbacaaGreatDoorAmS7
namespace Go.Proofs.YtgpndbkghmbacaaGreatDoor
open Go Go.Am
set_option linter.all false
set_option maxRecDepth 100000
theorem ldI_get {kk : IntKind} {i o : Nat} {h h' : H} {k : Int → Prop} (e : h'.get i = h.get i) : ldI kk (.ptr i o) h' k = ldI kk (.ptr i o) h k := by
  show asRow' (h'.get i) _ _ = asRow' (h.get i) _ _
  rw [e]
theorem ldV_get {i o : Nat} {h h' : H} {k : AV → Prop} (e : h'.get i = h.get i) : ldV (.ptr i o) h' k = ldV (.ptr i o) h k := by
  show asRow' (h'.get i) _ _ = asRow' (h.get i) _ _
  rw [e]
theorem ldI_row {kk : IntKind} {i o : Nat} {h : H} {k : Int → Prop} (q : ldI kk (.ptr i o) h k) : ∃ n, (∀ k' : Int → Prop, k' n → ldI kk (.ptr i o) h k') ∧ k n ∧ (∀ es, h.get i ≠ .smap es) ∧ h.get i ≠ .dead := by
  have hs : (∀ es, h.get i ≠ .smap es) ∧ h.get i ≠ .dead := by
    have q : asRow' (h.get i) _ _ := q
    rw [asRow'_iff] at q
    rcases q with ⟨_, _, _, g, _⟩ | ⟨_, _, _, _, g, _⟩ <;> rw [g] <;> exact ⟨fun es e => (by cases e), fun e => (by cases e)⟩
  obtain ⟨v, h1, h2⟩ := ldV_eq (p := .ptr i o) (h := h) q
  rw [asI_iff] at h2
  obtain ⟨n, rfl, h2⟩ := h2
  refine ⟨n, fun k' hk => ?_, h2, hs.1, hs.2⟩
  show ldV (.ptr i o) h fun v => asI kk v k'
  rw [h1, asI_iff]; exact ⟨n, rfl, hk⟩
theorem nodup_inj {α β : Type} (f : α → β) : ∀ (l : List α), (l.map f).Nodup → ∀ {a b : α}, a ∈ l → b ∈ l → f a = f b → a = b
  | [], _, _, _, h, _, _ => by cases h
  | x :: l, hn, a, b, ha, hb, e => by
    rw [List.map_cons, List.nodup_cons] at hn
    rcases List.mem_cons.1 ha with ea | ha2 <;> rcases List.mem_cons.1 hb with eb | hb2
    · rw [ea, eb]
    · exact absurd (List.mem_map.2 ⟨b, hb2, by rw [← e, ea]⟩) hn.1
    · exact absurd (List.mem_map.2 ⟨a, ha2, by rw [e, eb]⟩) hn.1
    · exact nodup_inj f l hn.2 ha2 hb2 e
/-- an entry of this value -/
noncomputable def okB (kk : Int) (b : AV) : Bool :=
  match b with
  | .int .u8 x => eqI x kk
  | _ => false
noncomputable def noneK (kk : Int) : List (AV × AV) → Prop → Prop
  | [], k => k
  | (a, b) :: l, k => asS a fun _ => asI .u8 b fun x => ck (Bool.not (eqI x kk)) (noneK kk l k)
noncomputable def selK (kk : Int) : List (AV × AV) → (Str → Prop) → Prop
  | [], _ => False
  | (a, b) :: l, k => asS a fun s => asI .u8 b fun x => br (eqI x kk) (noneK kk l (k s)) (selK kk l k)
theorem noneK_imp {kk : Int} : ∀ {l : List (AV × AV)} {k : Prop}, noneK kk l k → k ∧ ∀ p ∈ l, (∃ s x, p = (.str s, .int .u8 x)) ∧ okB kk p.2 = false
  | [], k, q => ⟨q, fun _ h => by cases h⟩
  | (a, b) :: l, k, q => by
    unfold noneK at q
    rw [asS_iff] at q; obtain ⟨s, rfl, q⟩ := q
    rw [asI_iff] at q; obtain ⟨x, rfl, q⟩ := q
    rw [ck_iff] at q
    obtain ⟨h1, q⟩ := q
    obtain ⟨h2, h3⟩ := noneK_imp q
    refine ⟨h2, fun p hp => ?_⟩
    rcases List.mem_cons.1 hp with rfl | hp
    · exact ⟨⟨s, x, rfl⟩, by simpa [okB] using h1⟩
    · exact h3 p hp
theorem selK_imp {kk : Int} : ∀ {l : List (AV × AV)} {k : Str → Prop}, selK kk l k → ∃ s x, (.str s, .int .u8 x) ∈ l ∧ eqI x kk = true ∧ k s ∧ (∀ p ∈ l, ∃ s x, p = (.str s, .int .u8 x)) ∧ ∀ p ∈ l, okB kk p.2 = true → p = (.str s, .int .u8 x)
  | [], k, q => q.elim
  | (a, b) :: l, k, q => by
    unfold selK at q
    rw [asS_iff] at q; obtain ⟨s, rfl, q⟩ := q
    rw [asI_iff] at q; obtain ⟨x, rfl, q⟩ := q
    rw [br_iff] at q
    rcases q with ⟨h1, q⟩ | ⟨h1, q⟩
    · obtain ⟨h2, h3⟩ := noneK_imp q
      refine ⟨s, x, List.mem_cons_self, h1, h2, fun p hp => ?_, fun p hp ho => ?_⟩
      · rcases List.mem_cons.1 hp with rfl | hp
        · exact ⟨s, x, rfl⟩
        · exact (h3 p hp).1
      · rcases List.mem_cons.1 hp with rfl | hp
        · rfl
        · rw [(h3 p hp).2] at ho; cases ho
    · obtain ⟨s', x', m', e', k', t', u'⟩ := selK_imp q
      refine ⟨s', x', List.mem_cons_of_mem _ m', e', k', fun p hp => ?_, fun p hp ho => ?_⟩
      · rcases List.mem_cons.1 hp with rfl | hp
        · exact ⟨s, x, rfl⟩
        · exact t' p hp
      · rcases List.mem_cons.1 hp with rfl | hp
        · have : eqI x kk = true := ho
          rw [h1] at this; cases this
        · exact u' p hp ho
/-- the range, as it may be run -/
noncomputable def rng252 (k : H → Prop) (r81 : AV × AV × AV × AV × AV × Unit → List Dfr → H → Prop) (x : AV) (y : AV → AV × AV × AV × AV × AV × AV × AV × Unit) (d : List Dfr) (h : H) : Prop :=
  smapK x h fun m es => ck (Nat.ble es.length 1000000) (ck (Nat.ble h.base m) (ck (Nat.ble h.base h.next) (pushK .dead h fun r hb => Go.Am.asPtr (y (.ptr r 0)).2.2.1 fun i o => Go.Am.asPtr (y (.ptr r 0)).1 fun i2 o2 =>
    ldI .u8 (.ptr i (Nat.add o 1)) hb fun kk => selK kk es fun s => ldV (.ptr i2 o2) hb fun w => putK m .dead hb fun h0 => pushK (.cells false 9 [.str s]) h0 fun n h1 =>
      g328 [w, .slice n 0 1 1 1 true] h1 fun _ h2 => putK r .dead h2 fun h3 => putK m (.smap es) h3 fun hc => ldI .u8 (.ptr i (Nat.add o 1)) hc fun kk2 => ck (eqI kk2 kk) (s252Tr k r81 (y (.ptr r 0)) d hc))))
theorem s252T_up {k : H → Prop} {r81 r81' : AV × AV × AV × AV × AV × Unit → List Dfr → H → Prop} (hr : ∀ v d h, r81 v d h → r81' v d h) {v : AV × AV × AV × AV × AV × AV × AV × Unit} {d : List Dfr} {h : H} : s252Tr k r81 v d h → s252Tu k r81' v d h := by
  unfold s252Tr s252Tu s252T
  repeat' first
    | with_reducible exact fun q => q
    | with_reducible refine upF_in fun _ _ => ?_
    | with_reducible refine Go.Am.br_mono ?_ ?_
    | with_reducible refine Go.Am.asI_mono fun _ => ?_
    | with_reducible refine Go.Am.ldV_mono fun _ => ?_
    | with_reducible refine Go.Am.ldB_mono fun _ => ?_
    | with_reducible refine Go.Am.ldI_mono fun _ => ?_
    | with_reducible refine Go.Am.op_mono fun _ => ?_
    | with_reducible refine Go.Am.fB_mono fun _ => ?_
    | with_reducible refine Go.Am.fI_mono fun _ => ?_
    | with_reducible refine Go.Am.pushK_mono fun _ _ => ?_
    | with_reducible refine Go.Am.faK_mono fun _ => ?_
    | with_reducible refine Go.Am.jd_mono (fun _ _ _ => ?_) fun _ _ _ => ?_
    | (intro q; with_reducible solve_by_elim)
theorem rng252_imp {k : H → Prop} {r81 r81' : AV × AV × AV × AV × AV × Unit → List Dfr → H → Prop} (hr : ∀ v d h, r81 v d h → r81' v d h) {x b1 b4 b5 b6 b2 : AV} {i : Nat} {d : List Dfr} {h : H} (q : rng252 k r81 x (fun v => (b1, b2, AV.ptr i 0, b4, b5, b6, v, ())) d h) :
    aRangeK x h fun v h => J0.lp (s252Bu k r81') (b1, b2, AV.ptr i 0, b4, b5, b6, v, ()) d h := by
  unfold rng252 at q
  obtain ⟨m, es0, rfl, hgm, q⟩ := smapK_imp q
  simp only [ck_iff, ble_iff] at q
  obtain ⟨hlen, hmb, hlow, q⟩ := q
  rw [pushK_iff] at q
  obtain ⟨r, hb, hp, q⟩ := q
  have hml : m < h.next := H.lt_of_live (by rw [hgm]; rfl)
  obtain ⟨rfl, nb, bb, wb, gb⟩ := H.push_some hp ⟨hlow⟩
  rw [Go.Am.asPtr_iff] at q
  obtain ⟨i', o', e', q⟩ := q
  injection e' with e1 e2; subst e1 e2
  rw [Go.Am.asPtr_iff] at q
  obtain ⟨i2, o2, rfl, q⟩ := q
  obtain ⟨kk, hld, q, hns, hnd⟩ := ldI_row q
  obtain ⟨s, xs, hmem, hkk, q, hty, huq⟩ := selK_imp q
  obtain ⟨w, hw, q⟩ := ldV_eq q
  rw [putK_iff] at q
  obtain ⟨h0, p0, q⟩ := q
  rw [pushK_iff] at q
  obtain ⟨n, h1, pn, q⟩ := q
  obtain ⟨_, _, n0, c0, g0⟩ := hput_get p0
  have w0 : h0.Wf := ⟨by rw [n0, c0]; exact wb.low⟩
  obtain ⟨en, nn1, bb1, w1, g1⟩ := H.push_some pn w0
  have gmb : hb.get m = .smap es0 := by rw [gb, if_neg (by omega)]; exact hgm
  have grb : hb.get h.next = .dead := by rw [gb, if_pos rfl]
  have hT : Go.Am.Told m h.next es0 hb := ⟨gmb, grb, by omega, by omega, by omega, by omega⟩
  have him : i ≠ m := fun e => hns es0 (by rw [e]; exact gmb)
  have hir : i ≠ h.next := fun e => hnd (by rw [e]; exact grb)
  unfold aRangeK
  simp only [hgm]
  intro es clock hs
  obtain ⟨h1r, p1⟩ := put_ok (h := h) (i := m) (.amap es clock) hml hmb
  obtain ⟨_, _, n1, b1', g1'⟩ := hput_get p1
  obtain ⟨h2r, p2⟩ := push_ok h1r (.miter (some m) clock [] clock)
  have w1r : h1r.Wf := ⟨by rw [n1, b1']; exact hlow⟩
  obtain ⟨_, n2, b2', w2, g2⟩ := H.push_some p2 w1r
  rw [p1]
  simp only [p2]
  rw [J0.lp_ok]
  rw [n1] at n2 g2 ⊢
  have it : Iter m h.next es0 es clock [] h2r := ⟨by rw [g2, if_neg (by omega), g1', if_pos rfl], by rw [g2, if_pos rfl], hs⟩
  have bt : But m h.next hb h2r := ⟨by omega, by rw [b2', b1', bb], fun id e1 e2 => by rw [g2, if_neg e2, g1', if_neg e1, gb, if_neg e2]⟩
  have hcnt : unseen [] es ≤ 1000000 := by
    have h1 := hs.perm.length_eq
    have h2 : unseen [] es ≤ es.length := List.length_filter_le _ _
    simp at h1; omega
  obtain ⟨j, hj⟩ : ∃ j, fuel = 1000000 + j + 1 := ⟨4611686018426387903, rfl⟩
  rw [hj]
  -- an entry that does not act passes
  have pass : ∀ hX : H, (∀ k' : Int → Prop, k' kk → ldI .u8 (.ptr i (Nat.add 0 1)) hX k') → ∀ (self : AV × AV × AV × AV × AV × AV × AV × Unit → List Dfr → H → Prop) (h3 : H) (a b : AV), aEntry (.ptr h.next 0) h3 = some (.tuple [a, b]) → (a, b) ∈ es0 → okB kk b = false → But m h.next hX h3 → self (.ptr i2 o2, b2, .ptr i 0, b4, b5, b6, .ptr h.next 0, ()) d h3 →
      op' (aEntry (.ptr h.next 0) h3) fun v109 => asTup v109 fun l110 => op' (lgetO l110 0) fun v111 => asS v111 fun s112 => asTup v109 fun l113 => op' (lgetO l113 1) fun v114 => asI .u8 v114 fun x115 => faK 1 (.ptr i 0) fun p116 => ldI .u8 p116 h3 fun x117 => fB (eqI x115 x117) fun b118 => br b118
        (ldV (.ptr i2 o2) h3 fun v119 => pushK (.cells false 9 [(.str s112)]) h3 fun n120 h121 => upF g328 [v119, .slice n120 0 1 1 1 true] h121 fun v122 h123 => self (.ptr i2 o2, b2, .ptr i 0, b4, b5, b6, .ptr h.next 0, ()) d h123)
        (self (.ptr i2 o2, b2, .ptr i 0, b4, b5, b6, .ptr h.next 0, ()) d h3) := by
    intro hX hl self h3 a b hent hm2 hk bt3 hself
    obtain ⟨s', x', e⟩ := hty _ hm2
    injection e with e1 e2; subst e1 e2
    rw [hent, op'_iff]
    refine ⟨_, rfl, ?_⟩
    rw [asTup_iff]
    refine ⟨_, rfl, ?_⟩
    rw [op'_iff]
    refine ⟨_, rfl, ?_⟩
    rw [asS_iff]
    refine ⟨_, rfl, ?_⟩
    rw [asTup_iff]
    refine ⟨_, rfl, ?_⟩
    rw [op'_iff]
    refine ⟨_, rfl, ?_⟩
    rw [asI_iff]
    refine ⟨_, rfl, ?_⟩
    rw [faK_ptr, ldI_get (bt3.get i him hir)]
    refine hl _ ?_
    rw [fB_eq, br_iff]
    exact .inr ⟨hk, hself⟩
  obtain ⟨k2, hk2⟩ : ∃ Rdy : H → Prop, Rdy = fun hc => Go.Am.Told m h.next es0 hc ∧ (∀ k' : Int → Prop, k' kk → ldI .u8 (.ptr i (Nat.add 0 1)) hc k') ∧ s252Tr k r81 (.ptr i2 o2, b2, .ptr i 0, b4, b5, b6, .ptr h.next 0, ()) d hc := ⟨_, rfl⟩
  refine sel_before (B := s252Bu k r81') (v := (.ptr i2 o2, b2, .ptr i 0, b4, b5, b6, .ptr h.next 0, ())) (d := d) (m := m) (r := h.next) (es0 := es0) (clock := clock) (ok := fun _ b => okB kk b) (hb := hb) (Rdy := k2)
    (RD := fun self h3 => op' (aEntry (.ptr h.next 0) h3) fun v109 => asTup v109 fun l110 => op' (lgetO l110 0) fun v111 => asS v111 fun s112 => asTup v109 fun l113 => op' (lgetO l113 1) fun v114 => asI .u8 v114 fun x115 => faK 1 (.ptr i 0) fun p116 => ldI .u8 p116 h3 fun x117 => fB (eqI x115 x117) fun b118 => br b118
        (ldV (.ptr i2 o2) h3 fun v119 => pushK (.cells false 9 [(.str s112)]) h3 fun n120 h121 => upF g328 [v119, .slice n120 0 1 1 1 true] h121 fun v122 h123 => self (.ptr i2 o2, b2, .ptr i 0, b4, b5, b6, .ptr h.next 0, ()) d h123)
        (self (.ptr i2 o2, b2, .ptr i 0, b4, b5, b6, .ptr h.next 0, ()) d h3))
    (TL := fun h3 => s252Tu k r81' (.ptr i2 o2, b2, .ptr i 0, b4, b5, b6, .ptr h.next 0, ()) d h3)
    (fun self h => rfl) hT (fun self h a b e1 e2 e3 e4 e5 => pass hb hld self h a b e1 e2 e3 e4 e5)
    (fun hc hr2 => ?_) (fun self h3 a b hw3 hent hm2 hk bt3 hself => ?_) (fun e he e' he' h1 h2 => ?_) wb 1000000 [] h2r j it bt hcnt ?_
  · subst hk2
    obtain ⟨t1, t2, t3⟩ := hr2
    exact ⟨t1, s252T_up hr t3, fun self h a b e1 e2 e3 e4 e5 => pass hc t2 self h a b e1 e2 e3 e4 e5⟩
  · -- the act
    have e0 := huq _ hm2 hk
    injection e0 with e1 e2; subst e1 e2
    show op' (aEntry (.ptr h.next 0) h3) _
    rw [hent, op'_iff]
    refine ⟨_, rfl, ?_⟩
    rw [asTup_iff]
    refine ⟨_, rfl, ?_⟩
    rw [op'_iff]
    refine ⟨_, rfl, ?_⟩
    rw [asS_iff]
    refine ⟨_, rfl, ?_⟩
    rw [asTup_iff]
    refine ⟨_, rfl, ?_⟩
    rw [op'_iff]
    refine ⟨_, rfl, ?_⟩
    rw [asI_iff]
    refine ⟨_, rfl, ?_⟩
    rw [faK_ptr, ldI_get (bt3.get i him hir)]
    refine hld _ ?_
    rw [fB_eq, br_iff]
    refine .inl ⟨hkk, ?_⟩
    have hi2 : i2 ≠ m ∧ i2 ≠ h.next := by
      have hq := hw fun _ => True
      have hq : asRow' (hb.get i2) _ _ = True := hq
      constructor
      · intro e; rw [e, gmb] at hq; exact cast (show True = False from (show False = True from hq).symm) trivial
      · intro e; rw [e, grb] at hq; exact cast (show True = False from (show False = True from hq).symm) trivial
    rw [ldV_get (bt3.get i2 hi2.1 hi2.2), hw, pushK_iff]
    obtain ⟨g3, p3⟩ := push_ok h3 (.cells false 9 [.str s])
    obtain ⟨_, m2, c2, _, g3g⟩ := H.push_some p3 hw3
    have hn3 : h3.next = hb.next := bt3.next
    have hb3 : h3.base = hb.base := bt3.base
    refine ⟨h3.next, g3, p3, ?_⟩
    have enn : n = h3.next := by rw [en, n0, hn3]
    subst enn
    refine .inr ⟨m, h.next, h1, by omega, by omega, by omega, by omega, ⟨by omega, by omega, ?_, ?_, fun id e1 e2 => ?_⟩, ?_⟩
    · rw [g1, if_neg (by omega), g0, if_pos rfl]
    · rw [g1, if_neg (by omega), g0, if_neg (by omega)]; exact grb
    · rw [g1, g3g, show h0.next = h3.next by omega]
      by_cases e3 : id = h3.next
      · rw [if_pos e3, if_pos e3]
      · rw [if_neg e3, if_neg e3, g0, if_neg e1]; exact (bt3.get id e1 e2).symm
    · refine ⟨_, q, fun v4 h4 q => ?_⟩
      rw [putK_iff] at q
      obtain ⟨h5, p5, q⟩ := q
      rw [putK_iff] at q
      obtain ⟨hc, pc, q⟩ := q
      obtain ⟨l5, r5, n5, c5, g5⟩ := hput_get p5
      obtain ⟨lc, rc, nc, cc, gc⟩ := hput_get pc
      obtain ⟨n6, q6, ⟨hq6, qT⟩, _, _⟩ := ldI_row q
      have e6 : n6 = kk := eqI_iff.1 hq6
      subst e6
      -- the real heap behind the act
      obtain ⟨ha, pa⟩ := put_ok (h := h4) (i := m) (h3.get m) (by omega) (by omega)
      obtain ⟨_, _, na, ca, ga⟩ := hput_get pa
      obtain ⟨hz, pz⟩ := put_ok (h := ha) (i := h.next) (h3.get h.next) (by omega) (by omega)
      obtain ⟨_, _, nz, cz, gz⟩ := hput_get pz
      have hmr : m ≠ h.next := by omega
      have zm : hz.get m = h3.get m := by rw [gz, if_neg hmr, ga, if_pos rfl]
      have zr : hz.get h.next = h3.get h.next := by rw [gz, if_pos rfl]
      refine ⟨hz, ⟨by omega, by omega, ?_, ?_, fun id e1 e2 => by rw [gz, if_neg e2, ga, if_neg e1]⟩, hself hc hz ?_ ⟨by omega, by omega, fun id e1 e2 => by rw [gz, if_neg e2, ga, if_neg e1, gc, if_neg e1, g5, if_neg e2]⟩ zm zr⟩
      · rw [zm, g3g, if_neg (by omega)]
      · rw [zr, g3g, if_neg (by omega)]
      · rw [hk2]
        exact ⟨⟨by rw [gc, if_pos rfl], by rw [gc, if_neg hmr.symm, g5, if_pos rfl], by omega, by omega, by omega, by omega⟩, q6, qT⟩
  · have h1' := huq (e.1, e.2.1) (hs.perm.mem_iff.1 (List.mem_map.2 ⟨e, he, rfl⟩)) h1
    have h2' := huq (e'.1, e'.2.1) (hs.perm.mem_iff.1 (List.mem_map.2 ⟨e', he', rfl⟩)) h2
    have hnd2 : (es.map fun e => e.1).Nodup := by
      have := (hs.perm.map (·.1)).nodup_iff.2 hs.keys
      simpa [List.map_map, Function.comp_def] using this
    injection h1' with a1 a2
    injection h2' with a3 a4
    rw [nodup_inj (fun e => e.1) es hnd2 he he' (a1.trans a3.symm)]
  · obtain ⟨e, he, hee⟩ := List.mem_map.1 (hs.perm.mem_iff.2 hmem)
    refine ⟨e, he, fun q => (by cases q), ?_⟩
    injection hee with e1 e2
    show okB _ e.2.1 = true
    rw [e2]; exact hkk
/-- stmt, as it may be run -/
noncomputable def s252' (a0 a1 : AV) (h : H) (k : H → Prop) : Prop := s252Hr (rng252 k) a0 a1 h k
theorem s252'_imp {a0 a1 : AV} {h : H} {k : H → Prop} : s252' a0 a1 h k → s252U a0 a1 h k := by
  unfold s252' s252U s252Hr s252Hu s252H
  repeat' first
    | with_reducible exact fun q => q
    | exact rng252_imp (by assumption)
    | with_reducible refine upF_in fun _ _ => ?_
    | with_reducible refine Go.Am.br_mono ?_ ?_
    | with_reducible refine Go.Am.asI_mono fun _ => ?_
    | with_reducible refine Go.Am.ldV_mono fun _ => ?_
    | with_reducible refine Go.Am.ldI_mono fun _ => ?_
    | with_reducible refine Go.Am.ldB_mono fun _ => ?_
    | with_reducible refine Go.Am.ldS_mono fun _ => ?_
    | with_reducible refine Go.Am.ldN_mono fun _ => ?_
    | with_reducible refine Go.Am.op_mono fun _ => ?_
    | with_reducible refine Go.Am.fB_mono fun _ => ?_
    | with_reducible refine Go.Am.fI_mono fun _ => ?_
    | with_reducible refine Go.Am.asTup_mono fun _ => ?_
    | with_reducible refine Go.Am.asB_mono fun _ => ?_
    | with_reducible refine Go.Am.asS_mono fun _ => ?_
    | with_reducible refine Go.Am.asAgg_mono fun _ => ?_
    | with_reducible refine Go.Am.stV_mono fun _ => ?_
    | with_reducible refine Go.Am.stN_mono fun _ => ?_
    | with_reducible refine Go.Am.pushK_mono fun _ _ => ?_
    | with_reducible refine Go.Am.okNil_mono ?_
    | with_reducible refine leave_up0 fun _ => ?_
    | with_reducible refine Go.Am.faK_mono fun _ => ?_
    | with_reducible refine Go.Am.ck_mono ?_
    | with_reducible refine Go.Am.lenK_mono fun _ => ?_
    | with_reducible refine Go.Am.ixK_mono fun _ => ?_
    | with_reducible refine Go.Am.jn_mono (fun _ _ => ?_) fun _ _ _ => ?_
    | with_reducible refine Go.Am.asBU_mono (fun _ => ?_) ?_
    | with_reducible refine Go.Am.lp_mono fun _ _ _ _ _ _ => ?_
    | with_reducible refine Go.Am.jd_mono (fun _ _ _ => ?_) fun _ _ _ => ?_
    | with_reducible refine Go.Am.slK_mono fun _ => ?_
    | (intro q; with_reducible solve_by_elim)
noncomputable def g252' : Fun := w252 s252'
theorem g252'_ok : FunOk Tryz.prog 252 g252' := s252U_ok.imp fun xs h k e0 => by
  obtain ⟨a0, xs0, rfl, e1⟩ := arg_imp e0
  obtain ⟨a1, xs1, rfl, e2⟩ := arg_imp e1
  obtain ⟨rfl, e3⟩ := noArg_imp e2
  exact s252'_imp e3
end Go.Proofs.YtgpndbkghmbacaaGreatDoor
