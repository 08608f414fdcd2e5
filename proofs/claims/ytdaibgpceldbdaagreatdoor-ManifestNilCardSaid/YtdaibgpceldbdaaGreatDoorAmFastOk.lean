/- The operations as they are reckoned come to what they plainly are. -/
import Derived.Test.YtdaibgpceldbdaaGreatDoorAmFast
namespace Go.Am
open Go

theorem pickK_imp {kd : Kd} {c a b : AV} {k : AV → Prop} (h : pickK kd c a b k) : ∃ v, aPick c a b = some v ∧ k v := by
  have fin : ∀ {b' : Bool} {P1 P2 : Prop}, c = .bool b' → br b' P1 P2 → (P1 → k a) → (P2 → k b) → ∃ v, aPick c a b = some v ∧ k v := fun hc g h1 h2 => by
    rw [br_iff] at g
    rcases g with ⟨rfl, g⟩ | ⟨rfl, g⟩
    · exact ⟨a, by rw [hc]; rfl, h1 g⟩
    · exact ⟨b, by rw [hc]; rfl, h2 g⟩
  unfold pickK at h
  split at h
  · unfold pickB at h; rw [asB_iff] at h; obtain ⟨b', hc, h⟩ := h
    exact fin hc h (fun g => by rw [asB_iff] at g; obtain ⟨_, e, g⟩ := g; rw [e]; exact g) (fun g => by rw [asB_iff] at g; obtain ⟨_, e, g⟩ := g; rw [e]; exact g)
  · unfold pickI at h; rw [asB_iff] at h; obtain ⟨b', hc, h⟩ := h
    exact fin hc h (fun g => by rw [asI_iff] at g; obtain ⟨_, e, g⟩ := g; rw [e]; exact g) (fun g => by rw [asI_iff] at g; obtain ⟨_, e, g⟩ := g; rw [e]; exact g)
  · unfold pickS at h; rw [asB_iff] at h; obtain ⟨b', hc, h⟩ := h
    exact fin hc h (fun g => by rw [asS_iff] at g; obtain ⟨_, e, g⟩ := g; rw [e]; exact g) (fun g => by rw [asS_iff] at g; obtain ⟨_, e, g⟩ := g; rw [e]; exact g)
  · unfold pickV at h; rw [asB_iff] at h; obtain ⟨b', hc, h⟩ := h
    exact fin hc h id id
theorem okNil_imp {v : AV} {k : Prop} (h : okNil v k) : aNilCheck v = some v ∧ k := by
  cases v with
  | func fn a b => cases fn <;> first | exact ⟨rfl, h⟩ | exact h.elim
  | ptr => exact ⟨rfl, h⟩
  | iface => exact ⟨rfl, h⟩
  | _ => exact h.elim

theorem binInt {T : Ty} {op : BinOp} {t : Nat} {con : Bool} {kk : IntKind} {a b : Int} (h1 : op ≠ .shl) (h2 : op ≠ .shr) : aBin T op t con (.int kk a) (.int kk b) = binI op kk a b := by
  have hk : keq kk kk = true := keq_iff.2 rfl
  cases op <;> first | exact absurd rfl h1 | exact absurd rfl h2 | (simp [aBin, hk])
theorem binStr {T : Ty} {op : BinOp} {t : Nat} {con : Bool} {a b : Str} : aBin T op t con (.str a) (.str b) = binS op a b := by
  cases op <;> rfl

theorem nil_cases {kd : Kd} {v : AV} (h : nilCode v = kdNil kd) : (v = .nilp ∧ ∃ e, kd = .ptr e) ∨ (v = .nils ∧ ∃ e, kd = .slice e) ∨ (v = .nilm ∧ ∃ a b, kd = .map a b) ∨ (v = .nilf ∧ kd = .func) ∨ (v = .nili ∧ kd = .iface) := by
  cases kd <;> cases v <;> simp [nilCode, kdNil] at h ⊢
theorem nil_cases2 {kd : Kd} {v : AV} (h : nilCode v = Nat.succ (kdNil kd)) : (∃ i o, v = .ptr i o) ∧ (∃ e, kd = .ptr e) ∨ (∃ a b c d e f, v = .slice a b c d e f) ∧ (∃ e, kd = .slice e) ∨ (∃ i, v = .map i) ∧ (∃ a b, kd = .map a b) ∨ (∃ a b c, v = .func a b c) ∧ kd = .func ∨ (∃ a b, v = .iface a b) ∧ kd = .iface := by
  cases kd <;> cases v <;> simp [nilCode, kdNil] at h ⊢
theorem eqNilR {T : Ty} {t : Nat} {a b : AV} {k : Bool → Prop} (hb : nilCode b = kdNil (T t).kd) (h : nilB (kdNil (T t).kd) a k) : ∃ c, eqAV T 20 t a b = some c ∧ k c := by
  unfold nilB at h
  rw [br_iff] at h
  rcases h with ⟨h1, h⟩ | ⟨_, h⟩
  · rw [Nat.beq_eq] at h1
    refine ⟨true, ?_, h⟩
    rcases nil_cases hb with ⟨rfl, e, hk⟩ | ⟨rfl, e, hk⟩ | ⟨rfl, e, f, hk⟩ | ⟨rfl, hk⟩ | ⟨rfl, hk⟩ <;> rcases nil_cases h1 with ⟨rfl, e', hk'⟩ | ⟨rfl, e', hk'⟩ | ⟨rfl, e', f', hk'⟩ | ⟨rfl, hk'⟩ | ⟨rfl, hk'⟩ <;>
      first | (rw [hk] at hk'; cases hk'; done) | simp [eqAV, hk]
  · rw [ck_iff, Nat.beq_eq] at h
    obtain ⟨h1, h⟩ := h
    refine ⟨false, ?_, h⟩
    rcases nil_cases hb with ⟨rfl, e, hk⟩ | ⟨rfl, e, hk⟩ | ⟨rfl, e, f, hk⟩ | ⟨rfl, hk⟩ | ⟨rfl, hk⟩ <;> rcases nil_cases2 h1 with ⟨⟨_, _, rfl⟩, e', hk'⟩ | ⟨⟨_, _, _, _, _, _, rfl⟩, e', hk'⟩ | ⟨⟨_, rfl⟩, e', f', hk'⟩ | ⟨⟨_, _, _, rfl⟩, hk'⟩ | ⟨⟨_, _, rfl⟩, hk'⟩ <;>
      first | (rw [hk] at hk'; cases hk'; done) | simp [eqAV, hk]
theorem eqNilL {T : Ty} {t : Nat} {a b : AV} {k : Bool → Prop} (hb : nilCode b = kdNil (T t).kd) (h : nilB (kdNil (T t).kd) a k) : ∃ c, eqAV T 20 t b a = some c ∧ k c := by
  unfold nilB at h
  rw [br_iff] at h
  rcases h with ⟨h1, h⟩ | ⟨_, h⟩
  · rw [Nat.beq_eq] at h1
    refine ⟨true, ?_, h⟩
    rcases nil_cases hb with ⟨rfl, e, hk⟩ | ⟨rfl, e, hk⟩ | ⟨rfl, e, f, hk⟩ | ⟨rfl, hk⟩ | ⟨rfl, hk⟩ <;> rcases nil_cases h1 with ⟨rfl, e', hk'⟩ | ⟨rfl, e', hk'⟩ | ⟨rfl, e', f', hk'⟩ | ⟨rfl, hk'⟩ | ⟨rfl, hk'⟩ <;>
      first | (rw [hk] at hk'; cases hk'; done) | simp [eqAV, hk]
  · rw [ck_iff, Nat.beq_eq] at h
    obtain ⟨h1, h⟩ := h
    refine ⟨false, ?_, h⟩
    rcases nil_cases hb with ⟨rfl, e, hk⟩ | ⟨rfl, e, hk⟩ | ⟨rfl, e, f, hk⟩ | ⟨rfl, hk⟩ | ⟨rfl, hk⟩ <;> rcases nil_cases2 h1 with ⟨⟨_, _, rfl⟩, e', hk'⟩ | ⟨⟨_, _, _, _, _, _, rfl⟩, e', hk'⟩ | ⟨⟨_, rfl⟩, e', f', hk'⟩ | ⟨⟨_, _, _, rfl⟩, hk'⟩ | ⟨⟨_, _, rfl⟩, hk'⟩ <;>
      first | (rw [hk] at hk'; cases hk'; done) | simp [eqAV, hk]
/-- '==' on what is neither a number nor a text -/
theorem bin_eql {T : Ty} {t : Nat} {a b : AV} {c : Bool} (h : eqAV T 20 t a b = some c) (hn : ∀ kk x kk' y, a = .int kk x → b = .int kk' y → False) (hs : ∀ x y, a = .str x → b = .str y → False) (con : Bool) (hc : a = .nili → b = .nili → con = true) : aBin T .eql t con a b = some (.bool c) := by
  unfold aBin
  split <;> first | contradiction | skip
  · exact (hn _ _ _ _ rfl rfl).elim
  · exact (hs _ _ rfl rfl).elim
  · rw [hc rfl rfl]; simp [h]
  · simp [h]
theorem bin_neq {T : Ty} {t : Nat} {a b : AV} {c : Bool} (h : eqAV T 20 t a b = some c) (hn : ∀ kk x kk' y, a = .int kk x → b = .int kk' y → False) (hs : ∀ x y, a = .str x → b = .str y → False) (con : Bool) (hc : a = .nili → b = .nili → con = true) : aBin T .neq t con a b = some (.bool (Bool.not c)) := by
  unfold aBin
  split <;> first | contradiction | skip
  · exact (hn _ _ _ _ rfl rfl).elim
  · exact (hs _ _ rfl rfl).elim
  · rw [hc rfl rfl]; simp [h]
  · simp [h]
theorem nilSide_imp {kd : Kd} {x : Operand} {ρ : Operand → AV} (h : nilSide kd x ρ = true) : isCon x = true ∧ nilCode (ρ x) = kdNil kd := by
  unfold nilSide at h
  split at h
  · rw [Nat.beq_eq] at h; exact ⟨rfl, h⟩
  · cases h
theorem nil_not {kd : Kd} {v : AV} (h : nilCode v = kdNil kd) : (∀ kk x, v ≠ .int kk x) ∧ (∀ x, v ≠ .str x) := by
  rcases nil_cases h with ⟨rfl, _⟩ | ⟨rfl, _⟩ | ⟨rfl, _⟩ | ⟨rfl, _⟩ | ⟨rfl, _⟩ <;> exact ⟨by simp, by simp⟩

theorem int_arith {T : Ty} {op : BinOp} {t : Nat} {con : Bool} {kk : IntKind} {x y : AV} {P : Int → Int → Prop} {k : AV → Prop} (h : asI kk x fun a => asI kk y fun b => P a b) (h1 : op ≠ .shl) (h2 : op ≠ .shr)
    (hp : ∀ a b, P a b → ∃ r, binI op kk a b = some r ∧ k r) : ∃ r, aBin T op t con x y = some r ∧ k r := by
  rw [asI_iff] at h; obtain ⟨a, rfl, h⟩ := h
  rw [asI_iff] at h; obtain ⟨b, rfl, h⟩ := h
  obtain ⟨r, e, hk⟩ := hp a b h
  exact ⟨r, by rw [binInt h1 h2]; exact e, hk⟩
theorem str_arith {T : Ty} {op : BinOp} {t : Nat} {con : Bool} {x y : AV} {P : Str → Str → Prop} {k : AV → Prop} (h : asS x fun a => asS y fun b => P a b)
    (hp : ∀ a b, P a b → ∃ r, binS op a b = some r ∧ k r) : ∃ r, aBin T op t con x y = some r ∧ k r := by
  rw [asS_iff] at h; obtain ⟨a, rfl, h⟩ := h
  rw [asS_iff] at h; obtain ⟨b, rfl, h⟩ := h
  obtain ⟨r, e, hk⟩ := hp a b h
  exact ⟨r, by rw [binStr]; exact e, hk⟩

theorem binK_imp {T : Ty} {op : BinOp} {t : Nat} {x y : Operand} {ρ : Operand → AV} {k : AV → Prop} (h : binK T op t x y ρ k) : ∃ r, aBin T op t (isCon x || isCon y) (ρ x) (ρ y) = some r ∧ k r := by
  unfold binK at h
  split at h
  · rename_i kk hkd
    split at h
    case h_16 =>
      rw [asI_iff] at h; obtain ⟨a, ha, h⟩ := h
      rw [asNat_iff] at h; obtain ⟨k2, n, hn, h⟩ := h
      rw [fI_eq] at h
      refine ⟨_, ?_, h⟩
      rw [ha, hn]; unfold shlF; rw [nmin_eq]; rfl
    case h_17 =>
      rw [asI_iff] at h; obtain ⟨a, ha, h⟩ := h
      rw [asNat_iff] at h; obtain ⟨k2, n, hn, h⟩ := h
      rw [fI_eq] at h
      refine ⟨_, ?_, h⟩
      rw [ha, hn]; unfold shrF; rw [nmin_eq]; rfl
    all_goals refine int_arith h (by simp) (by simp) fun a b h => ?_
    case h_4 | h_5 =>
      rw [ck_iff, fI_eq] at h
      obtain ⟨h1, h⟩ := h
      have h1 : eqI b 0 = false := by simpa using h1
      exact ⟨_, by simp only [binI, h1], h⟩
    all_goals first
      | (rw [fI_eq] at h; exact ⟨_, rfl, h⟩)
      | (rw [fB_eq] at h; exact ⟨_, rfl, h⟩)
  · split at h
    case h_1 =>
      refine str_arith h fun a b h => ?_
      rw [ck_iff, fS_eq] at h
      exact ⟨_, by simp only [binS, h.1], h.2⟩
    case h_8 => exact h.elim
    all_goals (refine str_arith h fun a b h => ?_; rw [fB_eq] at h; exact ⟨_, rfl, h⟩)
  · rename_i hkd
    split at h
    · rw [asB_iff] at h; obtain ⟨a, ha, h⟩ := h
      rw [asB_iff] at h; obtain ⟨b, hb, h⟩ := h
      rw [fB_eq] at h
      exact ⟨_, bin_eql (by rw [ha, hb]; simp [eqAV, hkd]) (by rw [ha]; simp) (by rw [ha]; simp) _ (by rw [ha]; simp), h⟩
    · rw [asB_iff] at h; obtain ⟨a, ha, h⟩ := h
      rw [asB_iff] at h; obtain ⟨b, hb, h⟩ := h
      rw [fB_eq] at h
      exact ⟨_, bin_neq (by rw [ha, hb]; simp [eqAV, hkd]) (by rw [ha]; simp) (by rw [ha]; simp) _ (by rw [ha]; simp), h⟩
    · exact h.elim
  · have ob : ∀ {o : Option AV}, (obK o fun c => k (.bool c)) → ∃ r, o = some r ∧ k r := fun h => by
      unfold obK at h
      rw [op'_iff] at h; obtain ⟨v, hv, h⟩ := h
      rw [asB_iff] at h; obtain ⟨c, rfl, h⟩ := h
      exact ⟨_, hv, h⟩
    split at h
    · split at h
      · rename_i hs
        obtain ⟨hc, hn⟩ := nilSide_imp hs
        obtain ⟨c, he, h⟩ := eqNilR hn h
        obtain ⟨n1, n2⟩ := nil_not hn
        exact ⟨_, bin_eql he (fun _ _ _ _ _ h => n1 _ _ h) (fun _ _ _ h => n2 _ h) _ (fun _ _ => by rw [hc]; simp), h⟩
      · split at h
        · rename_i hs
          obtain ⟨hc, hn⟩ := nilSide_imp hs
          obtain ⟨c, he, h⟩ := eqNilL hn h
          obtain ⟨n1, n2⟩ := nil_not hn
          exact ⟨_, bin_eql he (fun _ _ _ _ h _ => n1 _ _ h) (fun _ _ h _ => n2 _ h) _ (fun _ _ => by rw [hc]; simp), h⟩
        · exact ob h
    · split at h
      · rename_i hs
        obtain ⟨hc, hn⟩ := nilSide_imp hs
        obtain ⟨c, he, h⟩ := eqNilR hn h
        rw [fB_eq] at h
        obtain ⟨n1, n2⟩ := nil_not hn
        exact ⟨_, bin_neq he (fun _ _ _ _ _ h => n1 _ _ h) (fun _ _ _ h => n2 _ h) _ (fun _ _ => by rw [hc]; simp), h⟩
      · split at h
        · rename_i hs
          obtain ⟨hc, hn⟩ := nilSide_imp hs
          obtain ⟨c, he, h⟩ := eqNilL hn h
          rw [fB_eq] at h
          obtain ⟨n1, n2⟩ := nil_not hn
          exact ⟨_, bin_neq he (fun _ _ _ _ h _ => n1 _ _ h) (fun _ _ h _ => n2 _ h) _ (fun _ _ => by rw [hc]; simp), h⟩
        · exact ob h
    · exact h.elim

theorem faK_imp {off : Nat} {p : AV} {k : AV → Prop} (h : faK off p k) : ∃ r, aFieldAddr off p = some r ∧ k r := by
  unfold faK at h
  rw [asPtr_iff] at h; obtain ⟨i, o, rfl, h⟩ := h
  rw [fN_eq] at h; exact ⟨_, rfl, h⟩
theorem partK_imp {kd : Kd} {size off : Nat} {cs : List AV} {k : AV → Prop} (h : partK kd size off cs k) : ∃ r, aPart kd.agg size off cs = some r ∧ k r := by
  unfold partK at h
  unfold aPart
  split at h
  · rename_i ha
    rw [op'_iff] at h; obtain ⟨l, hl, h⟩ := h
    rw [ha]; exact ⟨_, by simp only [hl], h⟩
  · rename_i ha
    rw [op'_iff] at h; obtain ⟨v, hv, h⟩ := h
    rw [ha]; exact ⟨_, hv, castK_imp h⟩
theorem ixK_imp {size : Nat} {s i : AV} {k : AV → Prop} (h : ixK size s i k) : ∃ r, aIndexAddr size s i = some r ∧ k r := by
  unfold ixK at h
  rw [asSl_iff] at h
  rcases h with ⟨_, h⟩ | ⟨id, off, len, c, e, x, rfl, h⟩
  · exact h.elim
  · rw [asNat_iff] at h; obtain ⟨kk, n, rfl, h⟩ := h
    rw [ck_iff, fN_eq] at h
    exact ⟨_, by simp only [aIndexAddr, h.1, seqN_eq], h.2⟩
theorem ixaK_imp {n size : Nat} {s i : AV} {k : AV → Prop} (h : ixaK n size s i k) : ∃ r, aIndexArrAddr n size s i = some r ∧ k r := by
  unfold ixaK at h
  rw [asPtr_iff] at h; obtain ⟨id, off, rfl, h⟩ := h
  rw [asNat_iff] at h; obtain ⟨kk, m, rfl, h⟩ := h
  rw [ck_iff, fN_eq] at h
  exact ⟨_, by simp only [aIndexArrAddr, h.1, seqN_eq], h.2⟩
theorem ixsK_imp {s i : AV} {k : Int → Prop} (h : ixsK s i k) : ∃ n, aIndexStr s i = some (.int .u8 n) ∧ k n := by
  unfold ixsK at h
  rw [asS_iff] at h; obtain ⟨s, rfl, h⟩ := h
  rw [asNat_iff] at h; obtain ⟨kk, n, rfl, h⟩ := h
  rw [ck_iff, fN_eq] at h
  exact ⟨_, by simp only [aIndexStr, h.1, seqN_eq], h.2⟩
theorem bndK_imp {d : Nat} {x : Option AV} {k : Nat → Prop} (h : bndK d x k) : ∃ n, bnd d x = some n ∧ k n := by
  unfold bndK at h
  split at h
  · exact ⟨d, rfl, h⟩
  · rw [asNat_iff] at h; obtain ⟨kk, n, rfl, h⟩ := h; exact ⟨n, rfl, h⟩
theorem subK_imp {s : AV} {lo hi : Option AV} {k : Str → Prop} (h : subK s lo hi k) : ∃ r, aSliceStr s lo hi = some (.str r) ∧ k r := by
  unfold subK at h
  rw [asS_iff] at h; obtain ⟨s, rfl, h⟩ := h
  obtain ⟨l, h1, h⟩ := bndK_imp h
  obtain ⟨u, h2, h⟩ := bndK_imp h
  rw [ck_iff, ck_iff, fS_eq] at h
  exact ⟨_, by simp only [aSliceStr, h1, h2, h.1, h.2.1], h.2.2⟩
theorem slK_imp {size : Nat} {v : AV} {lo hi : Option AV} {k : AV → Prop} (h : slK size v lo hi k) : ∃ r, aSliceSl size v lo hi none = some r ∧ k r := by
  unfold slK at h
  rw [asSl_iff] at h
  rcases h with ⟨rfl, h⟩ | ⟨id, off, len, cap, es, ex, rfl, h⟩
  · obtain ⟨l, h1, h⟩ := bndK_imp h
    obtain ⟨u, h2, h⟩ := bndK_imp h
    rw [ck_iff, ck_iff, Nat.beq_eq, Nat.beq_eq] at h
    obtain ⟨rfl, rfl, h⟩ := h
    exact ⟨.nils, by simp only [aSliceSl, h1, h2], h⟩
  · obtain ⟨l, h1, h⟩ := bndK_imp h
    obtain ⟨u, h2, h⟩ := bndK_imp h
    rw [ck_iff, ck_iff, ck_iff, br_iff] at h
    obtain ⟨c1, c2, c3, h⟩ := h
    rcases h with ⟨c4, h⟩ | ⟨c4, h⟩
    · rw [fN_eq] at h
      exact ⟨_, by simp only [aSliceSl, h1, h2, c1, c2, c3, c4, seqN_eq], h⟩
    · rw [fN_eq, fN_eq, fN_eq] at h
      exact ⟨_, by simp only [aSliceSl, h1, h2, c1, c2, c3, c4, seqN_eq], h⟩
theorem lappK_imp {α : Type} {a b : List α} {k : List α → Prop} (h : lappK a b k) : k (lapp a b) := by rw [lappK_eq] at h; exact h

/-! ## building -/
theorem acells_agg {v : AV} (h : isOne v = true) : acells v = some [v] := acells_one h
theorem fillK_imp {T : Ty} {ρ : Operand → AV} {place : Nat → Option (Nat × Nat)} {k : List AV → Prop} : ∀ {ps : List (Nat × Operand)} {cs : List AV}, fillK T ρ place ps cs k →
    ∃ parts cs', (∀ (q : List (Nat × AV) → Option (List (Nat × Nat × AV))), q [] = some [] → (∀ i v r, q ((i, v) :: r) = match place i with
        | some (off, t) => match q r with
          | some l => some ((off, (T t).size, v) :: l)
          | none => none
        | none => none) → q (ps.map fun p => (p.1, ρ p.2)) = some parts) ∧ aFill cs parts = some cs' ∧ k cs'
  | [], cs, h => ⟨[], cs, fun q h0 _ => h0, rfl, h⟩
  | (i, x) :: r, cs, h => by
    unfold fillK at h
    split at h
    · rename_i off t hp
      have fin : ∀ (xs cs1 : List AV), acells (ρ x) = some xs → xs.length = (T t).size → lputAt off xs cs = some cs1 → fillK T ρ place r cs1 k → ∃ parts cs', (∀ (q : List (Nat × AV) → Option (List (Nat × Nat × AV))), q [] = some [] → (∀ i v r, q ((i, v) :: r) = match place i with
          | some (off, t) => match q r with
            | some l => some ((off, (T t).size, v) :: l)
            | none => none
          | none => none) → q (((i, x) :: r).map fun p => (p.1, ρ p.2)) = some parts) ∧ aFill cs parts = some cs' ∧ k cs' := fun xs cs1 h1 h2 h3 h => by
        obtain ⟨parts, cs', q1, q2, q3⟩ := fillK_imp h
        refine ⟨(off, (T t).size, ρ x) :: parts, cs', fun q h0 hs => ?_, ?_, q3⟩
        · rw [List.map_cons, hs, hp, q1 q h0 hs]
        · have e : Nat.beq xs.length (T t).size = true := by rw [Nat.beq_eq]; exact h2
          simp only [aFill, h1, e, h3]
          exact q2
      split at h
      · rw [asAgg_iff] at h; obtain ⟨xs, hx, h⟩ := h
        rw [ck_iff, op'_iff, Nat.beq_eq] at h
        obtain ⟨h1, cs1, h2, h⟩ := h
        exact fin xs cs1 (by rw [hx]; rfl) h1 h2 h
      · split at h
        · rename_i hs
          rw [Nat.beq_eq] at hs
          split at h
          · rw [asB_iff] at h; obtain ⟨v, hv, h⟩ := h
            rw [op'_iff] at h; obtain ⟨cs1, h2, h⟩ := h
            exact fin [.bool v] cs1 (by rw [hv]; rfl) hs h2 h
          · rw [asI_iff] at h; obtain ⟨v, hv, h⟩ := h
            rw [op'_iff] at h; obtain ⟨cs1, h2, h⟩ := h
            exact fin [.int _ v] cs1 (by rw [hv]; rfl) hs h2 h
          · rw [asS_iff] at h; obtain ⟨v, hv, h⟩ := h
            rw [op'_iff] at h; obtain ⟨cs1, h2, h⟩ := h
            exact fin [.str v] cs1 (by rw [hv]; rfl) hs h2 h
          · rw [ck_iff, op'_iff] at h
            obtain ⟨h1, cs1, h2, h⟩ := h
            exact fin _ cs1 (acells_one h1) hs h2 h
        · exact h.elim
    · exact h.elim
theorem sParts_q (T : Ty) (fs : List (Nat × Nat)) : sParts T fs [] = some [] ∧ ∀ i v r, sParts T fs ((i, v) :: r) = match placeS T fs i with
    | some (off, t) => match sParts T fs r with
      | some l => some ((off, (T t).size, v) :: l)
      | none => none
    | none => none := by
  refine ⟨rfl, fun i v r => ?_⟩
  rw [sParts]; unfold placeS
  cases fs[i]? with
  | none => rfl
  | some p =>
    obtain ⟨off, t⟩ := p
    simp only
    cases (T t).kd.known <;> rfl
/-! ## reading, writing -/
theorem toStrK_imp {v : AV} {h : H} {k : Str → Prop} (e : toStrK v h k) : ∃ s, aToStr v h = some (.str s) ∧ k s := by
  unfold toStrK at e
  rw [asSl_iff] at e
  rcases e with ⟨rfl, e⟩ | ⟨id, off, len, cap, es, ex, rfl, e⟩
  · exact ⟨_, rfl, e⟩
  · rw [asRow'_iff] at e
    rcases e with ⟨_, _, _, _, e⟩ | ⟨t, f, g, s, hg, e⟩
    · exact e.elim
    · rw [fN_eq, ck_iff, fS_eq] at e
      exact ⟨_, by simp only [aToStr, hg, e.1], e.2⟩
theorem ldK_imp {T : Ty} {t : Nat} {p : AV} {h : H} {k : AV → Prop} (e : ldK T t p h k) : ∃ v, (match (T t).kd.known with
    | true => match (T t).kd.agg with
      | true => aLoadN (T t).size p h
      | false => aLoad1 p h
    | false => none) = some v ∧ k v := by
  unfold ldK at e
  split at e
  · rename_i hk
    rw [hk]
    obtain ⟨v, h1, e⟩ := ldV_imp e
    rw [asB_iff] at e; obtain ⟨b, rfl, e⟩ := e
    exact ⟨_, h1, e⟩
  · rename_i hk
    rw [hk]
    obtain ⟨v, h1, e⟩ := ldV_imp e
    rw [asI_iff] at e; obtain ⟨b, rfl, e⟩ := e
    exact ⟨_, h1, e⟩
  · rename_i hk
    rw [hk]
    obtain ⟨v, h1, e⟩ := ldV_imp e
    rw [asS_iff] at e; obtain ⟨b, rfl, e⟩ := e
    exact ⟨_, h1, e⟩
  · rename_i hk
    rw [hk]
    obtain ⟨l, h1, e⟩ := ldN_imp e
    exact ⟨_, h1, e⟩
  · rename_i hk
    rw [hk]
    obtain ⟨l, h1, e⟩ := ldN_imp e
    exact ⟨_, h1, e⟩
  · exact e.elim
  · rename_i h1 h2 h3 h4 h5 h6
    obtain ⟨v, h7, e⟩ := ldV_imp e
    refine ⟨v, ?_, e⟩
    revert h1 h2 h3 h4 h5 h6
    cases (T t).kd <;> intro h1 h2 h3 h4 h5 h6 <;> first
      | exact (h1 rfl).elim | exact (h2 _ rfl).elim | exact (h3 rfl).elim | exact (h4 _ rfl).elim | exact (h5 _ _ rfl).elim | exact (h6 rfl).elim | exact h7
theorem stK_imp {T : Ty} {t : Nat} {p x : AV} {h : H} {k : H → Prop} (e : stK T t p x h k) : ((T t).kd.known && Nat.ble 0 (T t).size) = true ∧ ∃ h', aStore (T t).size p x h = some h' ∧ k h' := by
  unfold stK at e
  split at e
  · rename_i hc
    refine ⟨hc, ?_⟩
    split at e
    · rw [asAgg_iff] at e; obtain ⟨xs, rfl, e⟩ := e
      exact stN_imp e
    · split at e
      · rename_i h1
        rw [Nat.beq_eq] at h1; rw [← h1]; exact stV_imp e
      · exact e.elim
  · exact e.elim
theorem srcB_imp {kd : Kd} {x : AV} {h : H} {k : Str → Prop} (e : srcB kd x h k) : ∃ s, aSrcB x h = some s ∧ k s := by
  unfold srcB at e
  split at e
  · rw [asS_iff] at e; obtain ⟨s, rfl, e⟩ := e; exact ⟨s, rfl, e⟩
  · unfold toStrK at e
    rw [asSl_iff] at e
    rcases e with ⟨rfl, e⟩ | ⟨id, off, len, cap, es, ex, rfl, e⟩
    · exact ⟨_, rfl, e⟩
    · rw [asRow'_iff] at e
      rcases e with ⟨_, _, _, _, e⟩ | ⟨t, f, g, s, hg, e⟩
      · exact e.elim
      · rw [fN_eq, ck_iff, fS_eq] at e
        exact ⟨_, by simp only [aSrcB, hg, e.1], e.2⟩
theorem srcC_imp {size : Nat} {x : AV} {h : H} {k : Nat → List AV → Prop} (e : srcC size x h k) : ∃ n l, aSrcC size x h = some (n, l) ∧ k n l := by
  unfold srcC at e
  rw [asSl_iff] at e
  rcases e with ⟨rfl, e⟩ | ⟨id, off, len, cap, es, ex, rfl, e⟩
  · exact ⟨_, _, rfl, e⟩
  · rw [asRow'_iff] at e
    rcases e with ⟨_, _, _, hg, e⟩ | ⟨_, _, _, _, _, e⟩
    · rw [op'_iff] at e; obtain ⟨l, hl, e⟩ := e
      exact ⟨_, _, by simp only [aSrcC, hg, hl], e⟩
    · exact e.elim
theorem op2_of {o : Option (AV × H)} {k : AV → H → Prop} {r : AV} {h' : H} (h : o = some (r, h')) (hk : k r h') : op2 o k := by subst h; exact hk
theorem aPush_of {b : Blk} {n es : Nat} {h h' : H} {i : Nat} (hp : h.push b = some (i, h')) : aPush b n es h = some (.slice i 0 n n es false, h') := by unfold aPush; simp only [hp]
theorem apB_imp {kd : Kd} {e : Nat} {s x : AV} {h : H} {k : AV → H → Prop} (q : apB kd e s x h k) : op2 (aAppendB e s x h) k := by
  unfold apB at q
  obtain ⟨src, hs, q1⟩ := srcB_imp q
  clear q; have q := q1; clear q1
  unfold aAppendB
  rw [hs]; simp only
  rw [asSl_iff] at q
  rcases q with ⟨rfl, q⟩ | ⟨id, off, len, cap, es, ex, rfl, q⟩
  · rw [br_iff] at q
    rcases q with ⟨c, q⟩ | ⟨c, q⟩
    · simp only [c]; exact q
    · rw [ck_iff, pushK_iff] at q
      obtain ⟨c2, i, h', hp, q⟩ := q
      simp only [c, c2, aPush_of hp]; exact q
  · rw [asRow'_iff] at q
    rcases q with ⟨_, _, _, _, q⟩ | ⟨t, fz, sg, str, hg, q⟩
    · exact q.elim
    · rw [fN_eq, fN_eq, br_iff] at q
      simp only [hg, seqN_eq]
      rcases q with ⟨c, q⟩ | ⟨c, q⟩
      · rw [br_iff] at q
        simp only [c]
        rcases q with ⟨c2, q⟩ | ⟨c2, q⟩
        · simp only [c2]; exact q
        · rw [ck_iff, ck_iff, fS_eq, putK_iff] at q
          obtain ⟨c3, c4, h', hp, q⟩ := q
          simp only [c2, c3, c4, hp]; exact q
      · rw [ck_iff, ck_iff, fS_eq, br_iff] at q
        obtain ⟨c2, c3, q⟩ := q
        simp only [c, c2, c3]
        rcases q with ⟨rfl, q⟩ | ⟨rfl, q⟩
        · rw [pushK_iff] at q
          obtain ⟨i, h', hp, q⟩ := q
          simp only [aPush_of hp]; exact q
        · rw [ck_iff, ck_iff, ck_iff, putK_iff] at q
          obtain ⟨c4, c5, c6, h1, hp1, q⟩ := q
          rw [pushK_iff] at q
          obtain ⟨i, h', hp, q⟩ := q
          have c6' : (Bool.rec (Nat.beq fz 0) (Nat.ble fz (Nat.add off len)) (Nat.blt 0 cap) : Bool) = true := c6
          simp only [c4, c5, c6', hp1, aPush_of hp]; exact q
theorem apC_imp {e size bytes : Nat} {s x : AV} {h : H} {k : AV → H → Prop} (q : apC e size bytes s x h k) : op2 (aAppendC e size bytes s x h) k := by
  unfold apC at q
  obtain ⟨n, src, hs, q1⟩ := srcC_imp q
  clear q; have q := q1; clear q1
  unfold aAppendC
  rw [hs]; simp only
  rw [asSl_iff] at q
  rcases q with ⟨rfl, q⟩ | ⟨id, off, len, cap, es, ex, rfl, q⟩
  · rw [br_iff] at q
    rcases q with ⟨c, q⟩ | ⟨c, q⟩
    · simp only [c]; exact q
    · rw [ck_iff, pushK_iff] at q
      obtain ⟨c2, i, h', hp, q⟩ := q
      simp only [c, c2, aPush_of hp]; exact q
  · rw [asRow'_iff] at q
    rcases q with ⟨mv, t, cs, hg, q⟩ | ⟨_, _, _, _, _, q⟩
    · rw [fN_eq, br_iff] at q
      simp only [hg, seqN_eq]
      rcases q with ⟨c, q⟩ | ⟨c, q⟩
      · rw [br_iff] at q
        simp only [c]
        rcases q with ⟨c2, q⟩ | ⟨c2, q⟩
        · simp only [c2]; exact q
        · rw [ck_iff, allOnes_eq, op'_iff] at q
          obtain ⟨c3, cs', hl, q⟩ := q
          rw [putK_iff] at q
          obtain ⟨h', hp, q⟩ := q
          simp only [c2, c3, hl, hp]; exact q
      · rw [ck_iff, op'_iff] at q
        obtain ⟨c2, old, hl, q⟩ := q
        rw [lappK_eq, br_iff] at q
        simp only [c, c2, hl]
        rcases q with ⟨rfl, q⟩ | ⟨rfl, q⟩
        · rw [pushK_iff] at q
          obtain ⟨i, h', hp, q⟩ := q
          simp only [aPush_of hp]; exact q
        · rw [ck_iff, ck_iff, ck_iff, allOnes_eq, putK_iff] at q
          obtain ⟨c4, c5, c6, h1, hp1, q⟩ := q
          rw [pushK_iff] at q
          obtain ⟨i, h', hp, q⟩ := q
          simp only [c4, c5, c6, hp1, aPush_of hp]; exact q
    · exact q.elim
theorem mapBlk_ok {T : Ty} {kt : Nat} {m i v : AV} {h : H} {k : AV → H → Prop} (q : op' (mapBlk T kt m i v h) fun p => putK p.1 p.2 h (k .junk)) : op1 (aMapPut T kt m i v h) k := by
  rw [op'_iff] at q
  obtain ⟨⟨id, b⟩, hp, q⟩ := q
  rw [putK_iff] at q
  obtain ⟨h', hput, q⟩ := q
  have : aMapPut T kt m i v h = some h' := by
    unfold mapBlk at hp
    unfold aMapPut
    split at hp
    · split at hp
      · rename_i hg; simp only [hg]
        split at hp
        · rename_i hs; simp only [hs]
          split at hp
          · rename_i hf; injection hp with hp; injection hp with e1 e2; subst e1 e2; simp only [hf]; exact hput
          · rename_i hf; injection hp with hp; injection hp with e1 e2; subst e1 e2; simp only [hf]; exact hput
          · cases hp
        · cases hp
      · rename_i hg; simp only [hg]
        split at hp
        · rename_i hs; simp only [hs]
          split at hp
          · rename_i hf; injection hp with hp; injection hp with e1 e2; subst e1 e2; simp only [hf]; exact hput
          · rename_i hf; injection hp with hp; injection hp with e1 e2; subst e1 e2; simp only [hf]; exact hput
          · cases hp
        · cases hp
      · cases hp
    · cases hp
  rw [this]; exact q
theorem mapBlkD_ok {T : Ty} {kt : Nat} {m i : AV} {h : H} {k : AV → H → Prop} (q : op' (mapBlkD T kt m i h) fun p => match p with
        | some q => putK q.1 q.2 h (k (.tuple []))
        | none => k (.tuple []) h) : ∃ h', aMapDel T kt m i h = some h' ∧ k (.tuple []) h' := by
  rw [op'_iff] at q
  obtain ⟨p, hp, q⟩ := q
  unfold mapBlkD at hp
  unfold aMapDel
  split at hp
  · rename_i hs; simp only [hs]
    split at hp
    · injection hp with hp; subst hp; exact ⟨h, rfl, q⟩
    · split at hp
      · rename_i hg; simp only [hg]
        split at hp
        · rename_i hf; injection hp with hp; subst hp
          simp only [putK_iff] at q
          obtain ⟨h', h1, h2⟩ := q
          exact ⟨h', by simp only [hf]; exact h1, h2⟩
        · rename_i hf; injection hp with hp; subst hp
          simp only [putK_iff] at q
          obtain ⟨h', h1, h2⟩ := q
          exact ⟨h', by simp only [hf]; exact h1, h2⟩
        · cases hp
      · rename_i hg; simp only [hg]
        split at hp
        · rename_i hf; injection hp with hp; subst hp
          simp only [putK_iff] at q
          obtain ⟨h', h1, h2⟩ := q
          exact ⟨h', by simp only [hf]; exact h1, h2⟩
        · rename_i hf; injection hp with hp; subst hp
          simp only [putK_iff] at q
          obtain ⟨h', h1, h2⟩ := q
          exact ⟨h', by simp only [hf]; exact h1, h2⟩
        · cases hp
      · cases hp
    · cases hp
  · cases hp
/-! ## the whole -/
section
variable {T : Ty} {G : Gam} {ty : Nat} {ρ : Operand → AV} {h : H} {k : AV → H → Prop}
theorem x0 {o : Op} {v : AV} (hc : opC T o = 0) (hv : opP T o ρ = some v) (hk : k v h) : opX T G o ρ h k := by unfold opX; rw [hc]; simp only [hv]; exact hk
theorem x1 {o : Op} {v : AV} (hc : opC T o = 1) (hv : opR T o ρ h = some v) (hk : k v h) : opX T G o ρ h k := by unfold opX; rw [hc]; simp only [hv]; exact hk
theorem x2 {o : Op} {b : Blk} {f : Nat → AV} {n : Nat} {h' : H} (hc : opC T o = 2) (hv : opA T o ρ = some (b, f)) (hp : h.push b = some (n, h')) (hk : k (f n) h') : opX T G o ρ h k := by
  unfold opX; rw [hc]; simp only [hv, aNew, hp]; exact hk
theorem x3 {o : Op} (hc : opC T o = 3) (hk : opW T G o ρ h k) : opX T G o ρ h k := by unfold opX; rw [hc]; exact hk

theorem opF_imp {o : Op} (e : opF T G ty o ρ h k) : ∃ K, opX T G o ρ h K ∧ ∀ r h', K r h' → k r h' := by
  have same : opX T G o ρ h k → ∃ K, opX T G o ρ h K ∧ ∀ r h', K r h' → k r h' := fun h => ⟨k, h, fun _ _ h => h⟩
  unfold opF at e
  split at e
  case h_1 x => exact same (x0 rfl rfl e)
  case h_2 x => exact same (x0 rfl rfl e)
  case h_3 c a b => obtain ⟨v, h1, h2⟩ := pickK_imp e; exact same (x0 rfl h1 h2)
  case h_4 x => obtain ⟨h1, h2⟩ := okNil_imp e; exact same (x0 rfl h1 h2)
  case h_5 op t x y u => obtain ⟨v, h1, h2⟩ := binK_imp e; exact same (x0 rfl h1 h2)
  case h_6 op t x =>
    split at e
    · rw [asB_iff] at e; obtain ⟨b, hb, e⟩ := e
      rw [fB_eq] at e
      exact same (x0 rfl (by simp only [opP, hb]; rfl) e)
    · rw [op'_iff] at e; obtain ⟨v, hv, e⟩ := e
      exact same (x0 rfl hv (castK_imp e))
  case h_7 s d x =>
    split at e
    · rename_i k1 k2 hs hd
      rw [asI_iff] at e; obtain ⟨n, hn, e⟩ := e
      rw [fI_eq] at e
      exact same (x0 (by simp only [opC, hs, hd]) (by simp only [opP, aConv, hs, hd, Kd.known, hn, aInt]) e)
    · rename_i hs hd
      rw [asS_iff] at e; obtain ⟨n, hn, e⟩ := e
      exact same (x0 (by simp only [opC, hs, hd]) (by simp only [opP, aConv, hs, hd, hn]) e)
    · rename_i e' hs hd
      split at e
      · rename_i hu
        obtain ⟨v, h1, h2⟩ := toStrK_imp e
        exact same (x1 (by simp only [opC, hs, hd]) (by simp only [opR, hs, hd, hu]; exact h1) h2)
      · exact e.elim
    · rename_i e' hs hd
      split at e
      · rename_i hu
        rw [asS_iff] at e; obtain ⟨s', hs', e⟩ := e
        rw [pushK_iff] at e; obtain ⟨n, h', hp, e⟩ := e
        exact same (x2 (f := fun n => .slice n 0 s'.len s'.len 1 false) (by simp only [opC, hs, hd]) (by simp only [opA, hs, hd, hu, hs']; rfl) hp e)
      · exact e.elim
    · exact same e
  case h_8 t x f =>
    split at e
    · rename_i off ft hf
      obtain ⟨v, h1, h2⟩ := faK_imp e; exact same (x0 rfl (by simp only [opP, hf]; exact h1) h2)
    · exact e.elim
  case h_9 t x f =>
    split at e
    · rename_i off ft hf
      rw [asAgg_iff] at e; obtain ⟨cs, hx, e⟩ := e
      obtain ⟨v, h1, h2⟩ := partK_imp e
      exact same (x0 rfl (by simp only [opP, hf, hx, aField]; exact h1) h2)
    · exact e.elim
  case h_10 t x i =>
    split at e
    · rename_i el hk
      split at e
      · rename_i hkn
        obtain ⟨v, h1, h2⟩ := ixK_imp e; exact same (x0 rfl (by simp only [opP, hk, hkn]; exact h1) h2)
      · exact e.elim
    · rename_i n el hk
      split at e
      · rename_i hkn
        obtain ⟨v, h1, h2⟩ := ixaK_imp e; exact same (x0 rfl (by simp only [opP, hk, hkn]; exact h1) h2)
      · exact e.elim
    · exact e.elim
  case h_11 t x i =>
    split at e
    · rename_i hk
      obtain ⟨v, h1, h2⟩ := ixsK_imp e; exact same (x0 rfl (by simp only [opP, hk]; exact h1) h2)
    · rename_i n el hk
      split at e
      · rename_i hkn
        rw [asAgg_iff] at e; obtain ⟨cs, hx, e⟩ := e
        rw [asNat_iff] at e; obtain ⟨kk, m, hi, e⟩ := e
        rw [ck_iff, fN_eq] at e
        obtain ⟨v, h1, h2⟩ := partK_imp e.2
        exact same (x0 rfl (by simp only [opP, hk, hkn, hx, hi, aIndexArr, e.1]; exact h1) h2)
      · exact e.elim
    · exact e.elim
  case h_12 t x lo hi =>
    split at e
    · rename_i hk
      obtain ⟨v, h1, h2⟩ := subK_imp e; exact same (x0 rfl (by simp only [opP, hk]; exact h1) h2)
    · rename_i el hk
      split at e
      · rename_i hkn
        obtain ⟨v, h1, h2⟩ := slK_imp e; exact same (x0 rfl (by simp only [opP, hk, hkn]; exact h1) h2)
      · exact e.elim
    · exact e.elim
  case h_13 x i =>
    rw [asTup_iff] at e; obtain ⟨vs, hx, e⟩ := e
    rw [op'_iff] at e; obtain ⟨v, hv, e⟩ := e
    rw [lgetO_eq] at hv
    exact same (x0 rfl (by simp only [opP, hx, aExtract]; exact hv) (castK_imp e))
  case h_14 t ps =>
    split at e
    · rename_i fs hk
      split at e
      · rename_i hall
        obtain ⟨parts, cs', q1, q2, q3⟩ := fillK_imp e
        have := q1 (sParts T fs) (sParts_q T fs).1 (sParts_q T fs).2
        exact same (x0 rfl (by simp only [opP, hk, hall, this, aBuild, q2]) q3)
      · exact e.elim
    · rename_i n el hk
      split at e
      · rename_i hkn
        obtain ⟨parts, cs', q1, q2, q3⟩ := fillK_imp e
        have := q1 (fun l => some (rParts (T el).size l)) rfl (fun _ _ _ => rfl)
        injection this with this
        exact same (x0 rfl (by simp only [opP, hk, hkn, this, aBuild, q2]) q3)
      · exact e.elim
    · exact e.elim
  case h_15 t a => obtain ⟨v, h1, h2⟩ := ldK_imp e; exact same (x1 rfl h1 h2)
  case h_16 t a x =>
    obtain ⟨hc, h', h1, h2⟩ := stK_imp e
    exact same (x3 rfl (by simp only [opW, hc, h1, op1]; exact h2))
  case h_17 el =>
    split at e
    · rename_i hk
      rw [pushK_iff] at e; obtain ⟨n, h', hp, e⟩ := e
      exact same (x2 (f := fun n => .ptr n 0) rfl (by simp only [opA, hk]; rfl) hp e)
    · exact e.elim
  case h_18 el x =>
    split at e
    · rw [asAgg_iff] at e; obtain ⟨cs, hx, e⟩ := e
      rw [pushK_iff] at e; obtain ⟨n, h', hp, e⟩ := e
      exact same (x2 (f := fun n => .ptr n 0) rfl (by simp only [opA, hx, aBox, acells]) hp e)
    · rw [ck_iff, pushK_iff] at e
      obtain ⟨h1, n, h', hp, e⟩ := e
      exact same (x2 (f := fun n => .ptr n 0) rfl (by simp only [opA, aBox, acells_one h1]) hp e)
  case h_19 t n ps =>
    split at e
    · rename_i el hk
      split at e
      · rename_i hc
        obtain ⟨parts, cs', q1, q2, q3⟩ := fillK_imp e
        have := q1 (fun l => some (rParts (T el).size l)) rfl (fun _ _ _ => rfl)
        injection this with this
        rw [op'_iff] at q3; obtain ⟨b, hb, q3⟩ := q3
        rw [pushK_iff] at q3; obtain ⟨i, h', hp, q3⟩ := q3
        exact same (x2 (f := fun i => .slice i 0 n n (T el).size true) rfl (by simp only [opA, hk, hc, this, aBuildSlice, q2, hb]) hp q3)
      · exact e.elim
    · exact e.elim
  case h_20 t l c =>
    rw [op'_iff] at e; obtain ⟨p, hp0, e⟩ := e
    rw [pushK_iff] at e; obtain ⟨n, h', hp, e⟩ := e
    exact same (x2 rfl hp0 hp e)
  case h_21 t x i ok =>
    split at e
    · rename_i kt el hk
      rw [op'_iff] at e; obtain ⟨v, hv, e⟩ := e
      exact same (x1 rfl (by simp only [opR, hk]; exact hv) (castK_imp e))
    · exact e.elim
  case h_22 t m i v =>
    split at e
    · rename_i kt el hk
      exact same (x3 rfl (by simp only [opW, hk]; exact mapBlk_ok e))
    · exact e.elim
  case h_23 t =>
    rw [pushK_iff] at e; obtain ⟨n, h', hp, e⟩ := e
    exact same (x3 rfl (by simp only [opW, aMakeMap, hp]; exact e))
  case h_24 t x =>
    split at e
    · rename_i kt el hk
      exact same (x3 rfl (by simp only [opW, hk]; exact e))
    · exact e.elim
  case h_25 i => exact same (x3 rfl e)
  case h_26 args argTypes =>
    split at e
    · rename_i x t ha ht
      split at e
      · rename_i hk
        rw [asS_iff] at e; obtain ⟨s, hs, e⟩ := e
        exact same (x0 (by simp only [opC, ht, hk]) (by simp only [opP, ha, ht, hk, hs, aLenStr]) e)
      · rename_i el hk
        have c0 : opC T (.call { callee := .builtin .len, args, argTypes }) = 0 := by simp only [opC, ht, hk]
        rw [asSl_iff] at e
        rcases e with ⟨hs, e⟩ | ⟨_, _, _, _, _, _, hs, e⟩
        · exact same (x0 c0 (by simp only [opP, ha, ht, hk, hs, aLenSl]) e)
        · exact same (x0 c0 (by simp only [opP, ha, ht, hk, hs, aLenSl]) e)
      · rename_i kt el hk
        rw [op'_iff] at e; obtain ⟨v, hv, e⟩ := e
        exact same (x1 (by simp only [opC, ht, hk]) (by simp only [opR, ha, ht, hk]; exact hv) e)
      · exact e.elim
    · exact e.elim
  case h_27 args argTypes =>
    split at e
    · rename_i s x t t2 ha ht
      split at e
      · rename_i el hk
        split at e
        · rename_i hc
          split at e
          · rename_i hu
            exact same (x3 rfl (by simp only [opW, ha, ht, hk, hc, hu]; exact apB_imp e))
          · rename_i hu
            exact same (x3 rfl (by simp only [opW, ha, ht, hk, hc, hu]; exact apC_imp e))
        · exact e.elim
      · exact e.elim
    · exact e.elim
  case h_28 args argTypes =>
    split at e
    · rename_i m i t t2 ha ht
      split at e
      · rename_i kt el hk
        obtain ⟨h', h1, h2⟩ := mapBlkD_ok e
        exact same (x3 rfl (by simp only [opW, ha, ht, hk, h1]; exact h2))
      · exact e.elim
    · exact e.elim
  case h_29 args argTypes =>
    rw [op'_iff] at e; obtain ⟨v, hv, e⟩ := e
    exact same (x0 rfl hv (castK_imp e))
  case h_30 args argTypes =>
    rw [op'_iff] at e; obtain ⟨v, hv, e⟩ := e
    exact same (x0 rfl hv (castK_imp e))
  case h_31 f args argTypes =>
    refine ⟨fun v h' => castK (T ty).kd v fun v => k v h', x3 rfl ?_, fun r h' hc => castK_imp hc⟩
    unfold callK at e
    unfold opW
    split at e
    · rename_i hf; simp only [hf]; exact e
    · rename_i hf; simp only [hf]; exact e
    · exact e.elim
  case h_32 x xt a ok =>
    rw [op'_iff] at e; obtain ⟨v, hv, e⟩ := e
    exact same (x0 rfl hv (castK_imp e))
  case h_33 => exact same e
end
end Go.Am
