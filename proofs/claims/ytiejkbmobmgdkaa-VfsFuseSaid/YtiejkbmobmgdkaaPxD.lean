/- A file that is put in the place of another: what is read behind a crash, call by call. No condition. -/
import Derived.Test.YtiejkbmobmgdkaaVxR
namespace Go.Am
open Go
set_option linter.all false
theorem create_cases {fs : Fs} {N c : Nat} (i : Inv fs N c) (hN : N ≤ mostRoom) (hc : c ≤ mostRoom) (ho : fs.off = false) {s : List UInt8} (hn : named s = true) (hx : nget fs.held.names s = none) :
    ((fs.create s).1 = 0 ∧ (fs.create s).2.sure = fs.sure ∧ (fs.create s).2.wait = fs.wait ++ [⟨1, s, [], fs.next, []⟩] ∧ (fs.create s).2.off = false ∧ (fs.create s).2.room = fs.room ∧ (fs.create s).2.fused = fs.fused ∧ (fs.create s).2.next = fs.next + 1) ∨
    ((fs.create s).1 = 7 ∧ (fs.create s).2.sure = fs.sure ∧ (fs.create s).2.wait = fs.wait ∧ fs.fused = true) := by
  have hm : mostRoom = 140737488355328 := rfl
  have e : fs.create s = ((fs.pend ⟨1, s, [], fs.next, []⟩).1, { (fs.pend ⟨1, s, [], fs.next, []⟩).2 with next := wrapF .i64 (Int.add (fs.pend ⟨1, s, [], fs.next, []⟩).2.next 1) }) := by
    unfold Fs.create
    rw [asked_on ho (by simp [hn]), if_neg (by simp), if_neg (by rw [hx]; simp)]
  have := i.nx
  have en : wrapF .i64 (Int.add (fs.pend ⟨1, s, [], fs.next, []⟩).2.next 1) = fs.next + 1 := by
    rw [pend_nx]; exact wrap_i64_in (by show _ ≤ fs.next + 1; omega) (by show fs.next + 1 < _; omega)
  rw [e, en]
  rcases pend_cases i hN ⟨1, s, [], fs.next, []⟩ with ⟨h1, h2, h3, h4⟩ | ⟨h1, h2, h3, h4, h5⟩
  · exact .inl ⟨h1, h2.sure, h3, h4.trans ho, h2.room, h2.fused, rfl⟩
  · exact .inr ⟨h1, h2.sure, h3, h5⟩
theorem sync_cases {fs : Fs} {N c : Nat} (i : Inv fs N c) (hN : N ≤ mostRoom) {s : List UInt8} {x : Int} (hf : fs.file s = (x, 0)) : fs.sync s = fs.settle (kFile x) := by
  unfold Fs.sync
  rw [hf, if_neg (by simp)]
theorem syncNames_on {fs : Fs} (ho : fs.off = false) : fs.syncNames = fs.settle kNames := by
  unfold Fs.syncNames
  rw [asked_on ho rfl, if_neg (by simp)]
theorem rename_on {fs : Fs} (ho : fs.off = false) {a b : List UInt8} (ha : named a = true) (hb : named b = true) {x : Int} (hx : nget fs.held.names a = some x) : fs.rename a b = fs.pend ⟨2, a, b, 0, []⟩ := by
  unfold Fs.rename
  rw [asked_on ho (by simp [ha, hb]), if_neg (by simp), file_some ho ha hx, if_neg (by simp)]
theorem W.filter {x : Int} {l : List Stp} (h : W x l) : l.filter (kFile x) = l ∧ l.filter (fun s => !kFile x s) = [] := by
  refine ⟨List.filter_eq_self.2 fun s hs => ?_, List.filter_eq_nil_iff.2 fun s hs => ?_⟩
  · unfold kFile; rw [decide_eq_true (h s hs).1, decide_eq_true (h s hs).2]; rfl
  · unfold kFile; rw [decide_eq_true (h s hs).1, decide_eq_true (h s hs).2]; simp
theorem W.nm {x : Int} {l : List Stp} (h : W x l) (j : Nat) (ns : List (List UInt8 × Int)) : nsteps ns (l.take j) = ns := W.names (x := x) (fun s hs => h s (List.mem_of_mem_take hs)) ns
def curB : List UInt8 := [99, 117, 114, 114, 101, 110, 116]
def newB : List UInt8 := [110, 101, 119]
def mkS (s : List UInt8) (x : Int) : Stp := ⟨1, s, [], x, []⟩
theorem named_cur : named curB = true := by decide
theorem named_new : named newB = true := by decide
/-- a file with a name of its own, and nothing pending -/
structure One (s : List UInt8) (b : List UInt8) (fs : Fs) : Prop where
  names : fs.sure.names = [(s, 0)]
  at0 : fbytes fs.sure.files 0 = b
  at1 : fbytes fs.sure.files 1 = []
  wait : fs.wait = []
  off : fs.off = false
  room : fs.room = 1048576
  next : fs.next = 1
/-- a file is made, written to, synced and named durably -/
theorem setup5 {old : List UInt8} (hl : old.length ≤ 400) {s : List UInt8} (hs : named s = true) :
    ((Fs.new 1048576).create s).1 = 0 ∧ (((Fs.new 1048576).create s).2.append s old).1 = 0 ∧ ((((Fs.new 1048576).create s).2.append s old).2.sync s).1 = 0 ∧
    (((((Fs.new 1048576).create s).2.append s old).2.sync s).2.syncNames).1 = 0 ∧ One s old ((((Fs.new 1048576).create s).2.append s old).2.sync s).2.syncNames.2 ∧ ((((Fs.new 1048576).create s).2.append s old).2.sync s).2.syncNames.2.fused = false := by
  have hm : mostRoom = 140737488355328 := rfl
  have i0 := Fs.new_inv 1048576
  have i1 := i0.create (by omega) (by omega) s
  have c1 := create_cases i0 (by omega) (by omega) rfl hs (show nget (Fs.new 1048576).held.names s = none from rfl)
  generalize (Fs.new 1048576).create s = r1 at c1 i1 ⊢
  rcases c1 with ⟨a1, a2, a3, a4, a5, a6, a7⟩ | ⟨_, _, _, a⟩
  rotate_left
  · cases a
  have a2 : r1.2.sure = ⟨[], []⟩ := a2
  have a3 : r1.2.wait = [mkS s 0] := a3
  have a5 : r1.2.room = 1048576 := a5
  have a6 : r1.2.fused = false := a6
  have a7 : r1.2.next = 1 := a7
  have h1 : r1.2.held = ⟨[], [(s, 0)]⟩ := by unfold Fs.held; rw [a2, a3]; rfl
  have f1 : r1.2.file s = (0, 0) := file_some a4 hs (by rw [h1]; show (if s = s then some 0 else none) = _; rw [if_pos rfl])
  have sp : r1.2.space = 1048576 := by
    rw [space_is i1 (by decide) (by omega) a4, h1, a5]; rfl
  have c2 := append_cases i1 (b := old) f1 (by rw [sp]; omega) (by omega)
  have i2 := i1.append s old (by omega)
  generalize r1.2.append s old = r2 at c2 i2 ⊢
  obtain ⟨ws, w1, w2, w3, w4, w5⟩ := c2
  rcases w5 with ⟨b1, b2, b3⟩ | ⟨_, _, b⟩
  rotate_left
  · rw [a6] at b; cases b
  have b4 : r2.2.sure = ⟨[], []⟩ := w2.sure.trans a2
  have b5 : r2.2.wait = mkS s 0 :: ws := by rw [w3, a3]; rfl
  have b6 : r2.2.off = false := b3.trans a4
  have h2 : r2.2.held.names = [(s, 0)] := by unfold Fs.held; rw [steps_names, b4, b5]; show nsteps [(s, 0)] ws = _; exact w1.names _
  have f2 : r2.2.file s = (0, 0) := file_some b6 hs (by rw [h2]; show (if s = s then some 0 else none) = _; rw [if_pos rfl])
  rw [sync_cases i2 (by omega) f2]
  have c3 := settle_cases i2 (by omega) (kFile 0)
  have i3 := i2.settle (p := kFile 0) (by omega) (.inl fun s hs => by unfold kFile at hs; rw [Bool.and_eq_true, decide_eq_true_iff] at hs; exact hs.1)
  generalize r2.2.settle (kFile 0) = r3 at c3 i3 ⊢
  rcases c3 with ⟨d1, d2, d3, d4, d5, d6, d7, d8⟩ | ⟨_, _, d⟩
  rotate_left
  · rw [w2.fused, a6] at d; cases d
  have k1 : (r2.2.wait.filter (kFile 0)) = ws := by rw [b5, List.filter_cons_of_neg (by simp [kFile, mkS]), w1.filter.1]
  have k2 : (r2.2.wait.filter fun s => !kFile 0 s) = [mkS s 0] := by rw [b5, List.filter_cons_of_pos (by simp [kFile, mkS]), w1.filter.2]
  rw [b4, k1] at d2
  rw [k2] at d3
  have d9 : r3.2.off = false := d7.trans b6
  rw [syncNames_on d9]
  have c4 := settle_cases i3 (by omega) kNames
  generalize r3.2.settle kNames = r4 at c4 ⊢
  rcases c4 with ⟨e1, e2, e3, e4, e5, e6, e7, e8⟩ | ⟨_, _, e⟩
  rotate_left
  · rw [d6, w2.fused, a6] at e; cases e
  have k3 : (r3.2.wait.filter kNames) = [mkS s 0] := by rw [d3]; rfl
  have k4 : (r3.2.wait.filter fun s => !kNames s) = [] := by rw [d3]; rfl
  rw [k3, d2] at e2
  rw [k4] at e3
  refine ⟨a1, b1, d1, e1, ⟨?_, ?_, ?_, e3, e7.trans d9, ?_, ?_⟩, ?_⟩
  · rw [e2, steps_names, steps_names, w1.names]; rfl
  · rw [e2, fbytes_steps, fbytes_steps, b2]; show ([] ++ old) ++ [] = old; simp
  · rw [e2, fbytes_steps, fbytes_steps, w1.other (by decide)]; rfl
  · rw [e4, d4, w2.room, a5]
  · rw [e5, d5, w2.next, a7]
  · rw [e6, d6, w2.fused, a6]
theorem One.fuse {s b : List UInt8} {fs : Fs} (o : One s b fs) {n : Int} (hn : 0 ≤ n) : (fs.fuse n).1 = 0 ∧ One s b (fs.fuse n).2 := by
  have : fs.fuse n = (0, { fs with fused := true, left := n }) := by unfold Fs.fuse; rw [asked_on o.off rfl, if_neg (by simp), if_neg (by omega)]
  rw [this]
  exact ⟨rfl, o.names, o.at0, o.at1, o.wait, o.off, o.room, o.next⟩
/-- what is read behind a crash: the new bytes, or, where not all was done, the old ones -/
def Q5 (old now : List UInt8) (b : Bool) (fs : Fs) : Prop := ∀ k t : Int, 0 ≤ k → 0 ≤ t → ∃ r, (fs.crash k t).2.read curB = (r, 0) ∧ (r = now ∨ b = false ∧ r = old)
theorem q5_old {old now : List UInt8} {fs : Fs} {N c : Nat} (i : Inv fs N c) (h : ∀ j, nget (nsteps fs.sure.names (fs.wait.take j)) curB = some 0) (h0 : fbytes fs.sure.files 0 = old) (hc : cat 0 fs.wait = []) : Q5 old now false fs := by
  intro k t hk ht
  refine ⟨_, read_crash i hk ht named_cur (h k.toNat), .inr ⟨rfl, ?_⟩⟩
  have := cat_crashed fs k.toNat t.toNat 0
  rw [hc] at this
  rw [List.prefix_nil.1 this, h0, List.append_nil]
/-- the new file is made -/
theorem step5a {old now : List UInt8} {fs : Fs} {N c : Nat} (o : One curB old fs) (i : Inv fs N c) (hN : N ≤ mostRoom) (hc : c ≤ mostRoom) :
    ((fs.create newB).1 = 0 ∧ (fs.create newB).2.sure = fs.sure ∧ (fs.create newB).2.wait = [mkS newB 1] ∧ (fs.create newB).2.off = false ∧ (fs.create newB).2.room = 1048576) ∨ ((fs.create newB).1 ≠ 0 ∧ Q5 old now false (fs.create newB).2) := by
  have ic := i.create hN hc newB
  have hh : nget fs.held.names newB = none := by rw [held_nil o.wait, o.names]; rfl
  rcases create_cases i hN hc o.off named_new hh with ⟨a1, a2, a3, a4, a5, a6, a7⟩ | ⟨a1, a2, a3, a4⟩
  · left
    rw [o.wait, o.next] at a3
    exact ⟨a1, a2, a3, a4, a5.trans o.room⟩
  · right
    refine ⟨by rw [a1]; decide, q5_old ic (fun j => ?_) (by rw [a2]; exact o.at0) (by rw [a3, o.wait]; rfl)⟩
    rw [a2, a3, o.wait, o.names, List.take_nil]; rfl
theorem nm5 {ws : List Stp} (w : W 1 ws) (j : Nat) : nget (nsteps [(curB, (0 : Int))] ((mkS newB 1 :: ws).take j)) curB = some 0 := by
  cases j with
  | zero => rfl
  | succ j =>
    show nget (nsteps (nstep [(curB, 0)] (mkS newB 1)) (ws.take j)) curB = _
    rw [w.nm]; rfl
theorem hn5 {ws : List Stp} (w : W 1 ws) : nsteps [(curB, (0 : Int))] (mkS newB 1 :: ws) = [(curB, 0), (newB, 1)] := by
  show nsteps (nstep [(curB, 0)] (mkS newB 1)) ws = _
  rw [w.names]; rfl
/-- it is written to -/
theorem step5b {old now : List UInt8} {sf : Tre} {fs : Fs} {N c : Nat} (i : Inv fs N c) (hn : now.length ≤ 400) (ho : old.length ≤ 400) (hN : N + 73 * now.length ≤ mostRoom) (hcN : c * N ≤ 4611686018427387904) (h0 : fs.sure = sf) (hs : sf.names = [(curB, 0)]) (f0 : fbytes sf.files 0 = old) (f1 : fbytes sf.files 1 = []) (hw : fs.wait = [mkS newB 1]) (hoff : fs.off = false) (hr : fs.room = 1048576) :
    ((fs.append newB now).1 = 0 ∧ (fs.append newB now).2.sure = sf ∧ (∃ ws, W 1 ws ∧ cat 1 ws = now ∧ (fs.append newB now).2.wait = mkS newB 1 :: ws) ∧ (fs.append newB now).2.off = false) ∨ ((fs.append newB now).1 ≠ 0 ∧ Q5 old now false (fs.append newB now).2) := by
  have hh : fs.held.names = [(curB, 0), (newB, 1)] := by unfold Fs.held; rw [steps_names, h0, hs, hw]; exact hn5 (fun s hs => by cases hs)
  have hf : fs.held.files = sf.files := by unfold Fs.held; rw [h0, hw]; rfl
  have fl : fs.file newB = (1, 0) := file_some hoff named_new (by rw [hh]; rfl)
  have sp : (now.length : Int) ≤ fs.space := by
    rw [space_is i hcN (by omega) hoff, hh, hf, hr]
    have : used sf.files [(curB, 0), (newB, 1)] = old.length := by
      show (fbytes sf.files 0).length + ((fbytes sf.files 1).length + 0) = _
      rw [f0, f1]; rfl
    rw [this]; omega
  have ia := i.append newB now hN
  obtain ⟨ws, w1, w2, w3, w4, w5⟩ := append_cases i (b := now) fl sp hN
  rw [hw] at w3
  rcases w5 with ⟨b1, b2, b3⟩ | ⟨b1, b2, b3⟩
  · exact .inl ⟨b1, w2.sure.trans h0, ⟨ws, w1, b2, w3⟩, b3.trans hoff⟩
  · refine .inr ⟨by rw [b1]; decide, q5_old ia (fun j => ?_) (by rw [w2.sure, h0]; exact f0) ?_⟩
    · rw [w2.sure, h0, hs, w3]; exact nm5 w1 j
    · rw [w3]; exact w1.other (by decide)
/-- it is synced -/
theorem step5c {old now : List UInt8} {sf : Tre} {fs : Fs} {N c : Nat} {ws : List Stp} (i : Inv fs N c) (hN : N ≤ mostRoom) (h0 : fs.sure = sf) (hs : sf.names = [(curB, 0)]) (f0 : fbytes sf.files 0 = old) (f1 : fbytes sf.files 1 = []) (w : W 1 ws) (hnow : cat 1 ws = now) (hw : fs.wait = mkS newB 1 :: ws) (hoff : fs.off = false) :
    ((fs.sync newB).1 = 0 ∧ (fs.sync newB).2.sure.names = [(curB, 0)] ∧ fbytes (fs.sync newB).2.sure.files 0 = old ∧ fbytes (fs.sync newB).2.sure.files 1 = now ∧ (fs.sync newB).2.wait = [mkS newB 1] ∧ (fs.sync newB).2.off = false) ∨ ((fs.sync newB).1 ≠ 0 ∧ Q5 old now false (fs.sync newB).2) := by
  have hh : fs.held.names = [(curB, 0), (newB, 1)] := by unfold Fs.held; rw [steps_names, h0, hs, hw]; exact hn5 w
  have fl : fs.file newB = (1, 0) := file_some hoff named_new (by rw [hh]; rfl)
  have is := i.sync hN newB
  rw [sync_cases i hN fl] at is ⊢
  have k1 : (fs.wait.filter (kFile 1)) = ws := by rw [hw, List.filter_cons_of_neg (by simp [kFile, mkS]), w.filter.1]
  have k2 : (fs.wait.filter fun s => !kFile 1 s) = [mkS newB 1] := by rw [hw, List.filter_cons_of_pos (by simp [kFile, mkS]), w.filter.2]
  rcases settle_cases i hN (kFile 1) with ⟨d1, d2, d3, d4, d5, d6, d7, d8⟩ | ⟨d1, d2, d3⟩
  · rw [h0, k1] at d2
    rw [k2] at d3
    refine .inl ⟨d1, ?_, ?_, ?_, d3, d7.trans hoff⟩
    · rw [d2, steps_names, w.names, hs]
    · rw [d2, fbytes_steps, f0, w.other (by decide), List.append_nil]
    · rw [d2, fbytes_steps, f1, hnow]; rfl
  · refine .inr ⟨by rw [d1]; decide, q5_old is (fun j => ?_) ?_ ?_⟩
    · rw [d2]; show nget (nsteps fs.sure.names (fs.wait.take j)) curB = _; rw [h0, hs, hw]; exact nm5 w j
    · rw [d2]; show fbytes fs.sure.files 0 = _; rw [h0]; exact f0
    · rw [d2]; show cat 0 fs.wait = _; rw [hw]; exact w.other (by decide)
def mvS : Stp := ⟨2, newB, curB, 0, []⟩
theorem nmv (j : Nat) : nget (nsteps [(curB, (0 : Int))] ([mkS newB 1, mvS].take j)) curB = some 0 ∨ nget (nsteps [(curB, (0 : Int))] ([mkS newB 1, mvS].take j)) curB = some 1 := by
  match j with
  | 0 => exact .inl rfl
  | 1 => exact .inl rfl
  | j + 2 => right; rw [List.take_of_length_le (by simp)]; rfl
theorem q5_mv {old now : List UInt8} {fs : Fs} {N c : Nat} (i : Inv fs N c) (hs : fs.sure.names = [(curB, 0)]) (f0 : fbytes fs.sure.files 0 = old) (f1 : fbytes fs.sure.files 1 = now) (hw : fs.wait = [mkS newB 1, mvS]) : Q5 old now false fs := by
  intro k t hk ht
  have hc : ∀ x, cat x fs.wait = [] := fun x => by rw [hw]; rfl
  have hp : ∀ x, cat x (fs.crashed k.toNat t.toNat) = [] := fun x => by
    have := cat_crashed fs k.toNat t.toNat x
    rw [hc] at this; exact List.prefix_nil.1 this
  rcases nmv k.toNat with h | h
  · refine ⟨_, read_crash i hk ht named_cur (x := 0) (by rw [hs, hw]; exact h), .inr ⟨rfl, ?_⟩⟩
    rw [hp, f0, List.append_nil]
  · refine ⟨_, read_crash i hk ht named_cur (x := 1) (by rw [hs, hw]; exact h), .inl ?_⟩
    rw [hp, f1, List.append_nil]
/-- it is moved -/
theorem step5d {old now : List UInt8} {fs : Fs} {N c : Nat} (i : Inv fs N c) (hN : N ≤ mostRoom) (hs : fs.sure.names = [(curB, 0)]) (f0 : fbytes fs.sure.files 0 = old) (f1 : fbytes fs.sure.files 1 = now) (hw : fs.wait = [mkS newB 1]) (hoff : fs.off = false) :
    ((fs.rename newB curB).1 = 0 ∧ (fs.rename newB curB).2.sure = fs.sure ∧ (fs.rename newB curB).2.wait = [mkS newB 1, mvS] ∧ (fs.rename newB curB).2.off = false) ∨ ((fs.rename newB curB).1 ≠ 0 ∧ Q5 old now false (fs.rename newB curB).2) := by
  have hh : fs.held.names = [(curB, 0), (newB, 1)] := by unfold Fs.held; rw [steps_names, hs, hw]; exact hn5 (fun s hs => by cases hs)
  have ir := i.rename hN newB curB
  rw [rename_on hoff named_new named_cur (x := 1) (by rw [hh]; rfl)] at ir ⊢
  rcases pend_cases i hN ⟨2, newB, curB, 0, []⟩ with ⟨h1, h2, h3, h4⟩ | ⟨h1, h2, h3, h4, h5⟩
  · rw [hw] at h3
    exact .inl ⟨h1, h2.sure, h3, h4.trans hoff⟩
  · refine .inr ⟨by rw [h1]; decide, q5_old ir (fun j => ?_) (by rw [h2.sure]; exact f0) (by rw [h3, hw]; rfl)⟩
    rw [h2.sure, h3, hs, hw]; exact nm5 (ws := []) (fun s hs => by cases hs) j
/-- it is named durably -/
theorem step5e {old now : List UInt8} {fs : Fs} {N c : Nat} (i : Inv fs N c) (hN : N ≤ mostRoom) (hs : fs.sure.names = [(curB, 0)]) (f0 : fbytes fs.sure.files 0 = old) (f1 : fbytes fs.sure.files 1 = now) (hw : fs.wait = [mkS newB 1, mvS]) (hoff : fs.off = false) :
    Q5 old now (decide (fs.syncNames.1 = 0)) fs.syncNames.2 := by
  have is := i.syncNames hN
  rw [syncNames_on hoff] at is ⊢
  rcases settle_cases i hN kNames with ⟨d1, d2, d3, d4, d5, d6, d7, d8⟩ | ⟨d1, d2, d3⟩
  · have k3 : (fs.wait.filter kNames) = [mkS newB 1, mvS] := by rw [hw]; rfl
    have k4 : (fs.wait.filter fun s => !kNames s) = [] := by rw [hw]; rfl
    rw [k3] at d2
    rw [k4] at d3
    intro k t hk ht
    refine ⟨_, read_crash is hk ht named_cur (x := 1) ?_, .inl ?_⟩
    · rw [d3, d2, steps_names, hs, List.take_nil]; rfl
    · have := cat_crashed (fs.settle kNames).2 k.toNat t.toNat 1
      rw [d3] at this
      rw [List.prefix_nil.1 this, d2, fbytes_steps, f1]
      show (now ++ []) ++ [] = now
      simp
  · rw [decide_eq_false (by rw [d1]; decide)]
    refine q5_mv is ?_ ?_ ?_ ?_ <;> rw [d2] <;> assumption
end Go.Am
