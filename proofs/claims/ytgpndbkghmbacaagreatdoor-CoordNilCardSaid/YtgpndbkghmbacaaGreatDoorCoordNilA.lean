/- The law 'CoordNil', lifted: it returns true from every fit start. No condition. -/
import Derived.Test.YtgpndbkghmbacaaGreatDoorCards
import Derived.Test.YtgpndbkghmbacaaGreatDoorAmS17
import Derived.Test.YtgpndbkghmbacaaGreatDoorAmL7
import Derived.Lay
import Derived.LaidLaws
import Derived.MakeChecks
import Derived.SevenTiedAt
namespace Go.Proofs.YtgpndbkghmbacaaGreatDoor
open Go Go.Am Go.ChangeShapes Go.WideShapes Go.ChangeAt Go.RowKit
set_option maxRecDepth 100000
theorem Tryz.own : ownKnob Tryz.prog.godebug = none := by kernel_rfl
theorem Tryz.laidOut : laidOutB Tryz.prog = true := by kernel_rfl
def HgLit (ts us : Nat → Nat) : H := ⟨(.nd .dead (.nd (.cells false (ts 1) [.int .u8 0, .int .u8 0, .int .u8 0, .int .u8 0, .int .u8 0, .int .u8 0, .int .u8 0, .int .u8 0, .int .u8 0, .int .u8 1, .int .u8 1, .int .u8 1, .int .u8 1, .int .u8 1, .int .u8 0, .int .u8 0, .int .u8 0, .int .u8 0, .int .u8 0, .int .u8 0, .int .u8 0, .int .u8 0, .int .u8 0, .int .u8 0, .int .u8 0, .int .u8 0, .int .u8 0, .int .u8 0, .int .u8 0, .int .u8 0, .int .u8 0, .int .u8 0, .int .u8 1, .int .u8 0, .int .u8 0, .int .u8 0, .int .u8 0, .int .u8 0, .int .u8 0, .int .u8 0, .int .u8 0, .int .u8 0, .int .u8 0, .int .u8 0, .int .u8 0, .int .u8 0, .int .u8 0, .int .u8 0, .int .u8 0, .int .u8 0, .int .u8 0, .int .u8 0, .int .u8 0, .int .u8 0, .int .u8 0, .int .u8 0, .int .u8 0, .int .u8 0, .int .u8 0, .int .u8 0, .int .u8 0, .int .u8 0, .int .u8 0, .int .u8 0, .int .u8 0, .int .u8 0, .int .u8 0, .int .u8 0, .int .u8 0, .int .u8 0, .int .u8 0, .int .u8 0, .int .u8 0, .int .u8 0, .int .u8 0, .int .u8 0, .int .u8 0, .int .u8 0, .int .u8 0, .int .u8 0, .int .u8 0, .int .u8 0, .int .u8 0, .int .u8 0, .int .u8 0, .int .u8 0, .int .u8 0, .int .u8 0, .int .u8 0, .int .u8 0, .int .u8 0, .int .u8 0, .int .u8 0, .int .u8 0, .int .u8 0, .int .u8 0, .int .u8 0, .int .u8 0, .int .u8 0, .int .u8 0, .int .u8 0, .int .u8 0, .int .u8 0, .int .u8 0, .int .u8 0, .int .u8 0, .int .u8 0, .int .u8 0, .int .u8 0, .int .u8 0, .int .u8 0, .int .u8 0, .int .u8 0, .int .u8 0, .int .u8 0, .int .u8 0, .int .u8 0, .int .u8 0, .int .u8 0, .int .u8 0, .int .u8 0, .int .u8 0, .int .u8 0, .int .u8 0, .int .u8 0, .int .u8 0, .int .u8 0, .int .u8 0, .int .u8 0, .int .u8 0, .int .u8 0, .int .u8 0, .int .u8 0, .int .u8 0, .int .u8 0, .int .u8 0, .int .u8 0, .int .u8 0, .int .u8 0, .int .u8 0, .int .u8 0, .int .u8 0, .int .u8 0, .int .u8 0, .int .u8 0, .int .u8 0, .int .u8 0, .int .u8 0, .int .u8 0, .int .u8 0, .int .u8 0, .int .u8 0, .int .u8 0, .int .u8 0, .int .u8 0, .int .u8 0, .int .u8 0, .int .u8 0, .int .u8 0, .int .u8 0, .int .u8 0, .int .u8 0, .int .u8 0, .int .u8 0, .int .u8 0, .int .u8 0, .int .u8 0, .int .u8 0, .int .u8 0, .int .u8 0, .int .u8 0, .int .u8 0, .int .u8 0, .int .u8 0, .int .u8 0, .int .u8 0, .int .u8 0, .int .u8 0, .int .u8 0, .int .u8 0, .int .u8 0, .int .u8 0, .int .u8 0, .int .u8 0, .int .u8 0, .int .u8 0, .int .u8 0, .int .u8 0, .int .u8 0, .int .u8 0, .int .u8 0, .int .u8 0, .int .u8 0, .int .u8 0, .int .u8 0, .int .u8 0, .int .u8 0, .int .u8 0, .int .u8 0, .int .u8 0, .int .u8 0, .int .u8 0, .int .u8 0, .int .u8 0, .int .u8 0, .int .u8 0, .int .u8 0, .int .u8 0, .int .u8 0, .int .u8 0, .int .u8 0, .int .u8 0, .int .u8 0, .int .u8 0, .int .u8 0, .int .u8 0, .int .u8 0, .int .u8 0, .int .u8 0, .int .u8 0, .int .u8 0, .int .u8 0, .int .u8 0, .int .u8 0, .int .u8 0, .int .u8 0, .int .u8 0, .int .u8 0, .int .u8 0, .int .u8 0, .int .u8 0, .int .u8 0, .int .u8 0, .int .u8 0, .int .u8 0, .int .u8 0, .int .u8 0, .int .u8 0, .int .u8 0, .int .u8 0, .int .u8 0, .int .u8 0, .int .u8 0, .int .u8 0, .int .u8 0, .int .u8 0, .int .u8 0, .int .u8 0, .int .u8 0, .int .u8 0, .int .u8 0, .int .u8 0, .int .u8 0, .int .u8 0, .int .u8 0, .int .u8 0]) (.nd .dead (.nd (.cells false (ts 7) [.iface (us 7) .junk]) .lf .lf) (.nd .dead .lf .lf)) (.nd .dead (.nd (.cells false (ts 9) [.int .u8 0, .int .u8 1, .int .u8 28, .int .u8 2, .int .u8 29, .int .u8 14, .int .u8 24, .int .u8 3, .int .u8 30, .int .u8 22, .int .u8 20, .int .u8 15, .int .u8 25, .int .u8 17, .int .u8 4, .int .u8 8, .int .u8 31, .int .u8 27, .int .u8 13, .int .u8 23, .int .u8 21, .int .u8 19, .int .u8 16, .int .u8 7, .int .u8 26, .int .u8 12, .int .u8 18, .int .u8 6, .int .u8 11, .int .u8 5, .int .u8 10, .int .u8 9]) .lf .lf) .lf)) (.nd (.cells false (ts 2) (Go.Pinned.utf8FirstZ.map fun (n : Nat) => AV.int .u8 n)) (.nd .dead (.nd (.cells false (ts 8) [.int .u64 1, .int .u64 10, .int .u64 100, .int .u64 1000, .int .u64 10000, .int .u64 100000, .int .u64 1000000, .int .u64 10000000, .int .u64 100000000, .int .u64 1000000000, .int .u64 10000000000, .int .u64 100000000000, .int .u64 1000000000000, .int .u64 10000000000000, .int .u64 100000000000000, .int .u64 1000000000000000, .int .u64 10000000000000000, .int .u64 100000000000000000, .int .u64 1000000000000000000, .int .u64 10000000000000000000]) .lf .lf) .lf) (.nd (.cells false (ts 6) [.iface (us 6) .junk]) (.nd (.cells false (ts 10) [.int .u8 0, .int .u8 1, .int .u8 56, .int .u8 2, .int .u8 57, .int .u8 49, .int .u8 28, .int .u8 3, .int .u8 61, .int .u8 58, .int .u8 42, .int .u8 50, .int .u8 38, .int .u8 29, .int .u8 17, .int .u8 4, .int .u8 62, .int .u8 47, .int .u8 59, .int .u8 36, .int .u8 45, .int .u8 43, .int .u8 51, .int .u8 22, .int .u8 53, .int .u8 39, .int .u8 33, .int .u8 30, .int .u8 24, .int .u8 18, .int .u8 12, .int .u8 5, .int .u8 63, .int .u8 55, .int .u8 48, .int .u8 27, .int .u8 60, .int .u8 41, .int .u8 37, .int .u8 16, .int .u8 46, .int .u8 35, .int .u8 44, .int .u8 21, .int .u8 52, .int .u8 32, .int .u8 23, .int .u8 11, .int .u8 54, .int .u8 26, .int .u8 40, .int .u8 15, .int .u8 34, .int .u8 20, .int .u8 31, .int .u8 10, .int .u8 25, .int .u8 14, .int .u8 19, .int .u8 9, .int .u8 13, .int .u8 8, .int .u8 7, .int .u8 6]) .lf .lf) .lf))), 12, 12⟩
theorem hg_is (ts us : Nat → Nat) : Hg (glBlks Tryz.prog Rows.coordNilRow.laid ts us) = HgLit ts us := by kernel_rfl
def lawArgs (x0 : Int) (x1 : Str) (x2 : Int) (x3 : Int) (x4 : Int) (x5 : Int) (x6 : Int) (x7 : Int) (x8 : Int) (x9 : Int) (x10 : Int) (x11 : Int) (x12 : Int) (x13 : Int) (x14 : Int) (x15 : Int) (x16 : Int) (x17 : Int) (x18 : Int) (x19 : Int) (x20 : Int) (x21 : Int) (x22 : Int) (x23 : Int) (x24 : Int) (x25 : Int) (x26 : Int) (x27 : Int) (x28 : Int) (x29 : Int) (x30 : Int) (x31 : Int) (x32 : Bool) (x33 : Int) : List AV := [.agg [.int .i64 x0, .str x1, .int .i32 x2, .int .i32 x3, .int .i64 x4, .int .i32 x5, .int .i32 x6, .int .i64 x7, .int .i64 x8, .int .i64 x9, .int .i32 x10, .int .i32 x11, .int .i64 x12, .int .i64 x13, .int .i64 x14, .junk, .junk, .int .i64 x15, .int .i32 x16, .int .i32 x17, .int .i64 x18, .int .i32 x19, .int .i32 x20, .int .i32 x21, .int .i32 x22, .int .u8 x23, .int .i64 x24, .int .i32 x25, .int .i32 x26, .junk, .int .i64 x27, .int .i64 x28, .int .i32 x29, .int .i32 x30, .int .i64 x31, .bool x32, .int .i64 x33, .junk]]
theorem law_run (ts us : Nat → Nat) (x0 : Int) (x1 : Str) (x2 : Int) (x3 : Int) (x4 : Int) (x5 : Int) (x6 : Int) (x7 : Int) (x8 : Int) (x9 : Int) (x10 : Int) (x11 : Int) (x12 : Int) (x13 : Int) (x14 : Int) (x15 : Int) (x16 : Int) (x17 : Int) (x18 : Int) (x19 : Int) (x20 : Int) (x21 : Int) (x22 : Int) (x23 : Int) (x24 : Int) (x25 : Int) (x26 : Int) (x27 : Int) (x28 : Int) (x29 : Int) (x30 : Int) (x31 : Int) (x32 : Bool) (x33 : Int) : (AV.bool true = AV.bool true) = g4 (lawArgs x0 x1 x2 x3 x4 x5 x6 x7 x8 x9 x10 x11 x12 x13 x14 x15 x16 x17 x18 x19 x20 x21 x22 x23 x24 x25 x26 x27 x28 x29 x30 x31 x32 x33) (HgLit ts us) isT := by kernel_rfl
theorem law_ok (ts us : Nat → Nat) (x0 : Int) (x1 : Str) (x2 : Int) (x3 : Int) (x4 : Int) (x5 : Int) (x6 : Int) (x7 : Int) (x8 : Int) (x9 : Int) (x10 : Int) (x11 : Int) (x12 : Int) (x13 : Int) (x14 : Int) (x15 : Int) (x16 : Int) (x17 : Int) (x18 : Int) (x19 : Int) (x20 : Int) (x21 : Int) (x22 : Int) (x23 : Int) (x24 : Int) (x25 : Int) (x26 : Int) (x27 : Int) (x28 : Int) (x29 : Int) (x30 : Int) (x31 : Int) (x32 : Bool) (x33 : Int) : Holds (g4 (lawArgs x0 x1 x2 x3 x4 x5 x6 x7 x8 x9 x10 x11 x12 x13 x14 x15 x16 x17 x18 x19 x20 x21 x22 x23 x24 x25 x26 x27 x28 x29 x30 x31 x32 x33) (Hg (glBlks Tryz.prog Rows.coordNilRow.laid ts us)) isT) := by
  rw [hg_is]
  exact holds_of_run (law_run ts us x0 x1 x2 x3 x4 x5 x6 x7 x8 x9 x10 x11 x12 x13 x14 x15 x16 x17 x18 x19 x20 x21 x22 x23 x24 x25 x26 x27 x28 x29 x30 x31 x32 x33)
theorem shapes_cons' {P : Program} {t : Nat} {ts : List Nat} {l : List AV} (h : Shapes P (t :: ts) l) : ∃ a l', l = a :: l' ∧ Shape P t a ∧ Shapes P ts l' := by
  cases l with
  | nil => exact h.elim
  | cons a l => exact ⟨a, l, rfl, h.1, h.2⟩
theorem shapes_nil' {P : Program} {l : List AV} (h : Shapes P [] l) : l = [] := by
  cases l with
  | nil => rfl
  | cons a l => exact h.elim
theorem shape0 {l : List AV} (h : Shapes Tryz.prog [3, 9, 21, 21, 2, 21, 21, 2, 3, 2, 21, 21, 3, 25, 3, 37, 38, 2, 21, 21, 2, 21, 21, 21, 21, 43, 2, 21, 21, 26, 2, 2, 21, 21, 3, 4, 3, 38] l) : ∃ x0 x1 x2 x3 x4 x5 x6 x7 x8 x9 x10 x11 x12 x13 x14 x15 x16 x17 x18 x19 x20 x21 x22 x23 x24 x25 x26 x27 x28 x29 x30 x31 x32 x33, l = [.int .i64 x0, .str x1, .int .i32 x2, .int .i32 x3, .int .i64 x4, .int .i32 x5, .int .i32 x6, .int .i64 x7, .int .i64 x8, .int .i64 x9, .int .i32 x10, .int .i32 x11, .int .i64 x12, .int .i64 x13, .int .i64 x14, .junk, .junk, .int .i64 x15, .int .i32 x16, .int .i32 x17, .int .i64 x18, .int .i32 x19, .int .i32 x20, .int .i32 x21, .int .i32 x22, .int .u8 x23, .int .i64 x24, .int .i32 x25, .int .i32 x26, .junk, .int .i64 x27, .int .i64 x28, .int .i32 x29, .int .i32 x30, .int .i64 x31, .bool x32, .int .i64 x33, .junk] := by
  obtain ⟨a0, l0, rfl, h0, h⟩ := shapes_cons' h
  obtain ⟨a1, l1, rfl, h1, h⟩ := shapes_cons' h
  obtain ⟨a2, l2, rfl, h2, h⟩ := shapes_cons' h
  obtain ⟨a3, l3, rfl, h3, h⟩ := shapes_cons' h
  obtain ⟨a4, l4, rfl, h4, h⟩ := shapes_cons' h
  obtain ⟨a5, l5, rfl, h5, h⟩ := shapes_cons' h
  obtain ⟨a6, l6, rfl, h6, h⟩ := shapes_cons' h
  obtain ⟨a7, l7, rfl, h7, h⟩ := shapes_cons' h
  obtain ⟨a8, l8, rfl, h8, h⟩ := shapes_cons' h
  obtain ⟨a9, l9, rfl, h9, h⟩ := shapes_cons' h
  obtain ⟨a10, l10, rfl, h10, h⟩ := shapes_cons' h
  obtain ⟨a11, l11, rfl, h11, h⟩ := shapes_cons' h
  obtain ⟨a12, l12, rfl, h12, h⟩ := shapes_cons' h
  obtain ⟨a13, l13, rfl, h13, h⟩ := shapes_cons' h
  obtain ⟨a14, l14, rfl, h14, h⟩ := shapes_cons' h
  obtain ⟨a15, l15, rfl, h15, h⟩ := shapes_cons' h
  obtain ⟨a16, l16, rfl, h16, h⟩ := shapes_cons' h
  obtain ⟨a17, l17, rfl, h17, h⟩ := shapes_cons' h
  obtain ⟨a18, l18, rfl, h18, h⟩ := shapes_cons' h
  obtain ⟨a19, l19, rfl, h19, h⟩ := shapes_cons' h
  obtain ⟨a20, l20, rfl, h20, h⟩ := shapes_cons' h
  obtain ⟨a21, l21, rfl, h21, h⟩ := shapes_cons' h
  obtain ⟨a22, l22, rfl, h22, h⟩ := shapes_cons' h
  obtain ⟨a23, l23, rfl, h23, h⟩ := shapes_cons' h
  obtain ⟨a24, l24, rfl, h24, h⟩ := shapes_cons' h
  obtain ⟨a25, l25, rfl, h25, h⟩ := shapes_cons' h
  obtain ⟨a26, l26, rfl, h26, h⟩ := shapes_cons' h
  obtain ⟨a27, l27, rfl, h27, h⟩ := shapes_cons' h
  obtain ⟨a28, l28, rfl, h28, h⟩ := shapes_cons' h
  obtain ⟨a29, l29, rfl, h29, h⟩ := shapes_cons' h
  obtain ⟨a30, l30, rfl, h30, h⟩ := shapes_cons' h
  obtain ⟨a31, l31, rfl, h31, h⟩ := shapes_cons' h
  obtain ⟨a32, l32, rfl, h32, h⟩ := shapes_cons' h
  obtain ⟨a33, l33, rfl, h33, h⟩ := shapes_cons' h
  obtain ⟨a34, l34, rfl, h34, h⟩ := shapes_cons' h
  obtain ⟨a35, l35, rfl, h35, h⟩ := shapes_cons' h
  obtain ⟨a36, l36, rfl, h36, h⟩ := shapes_cons' h
  obtain ⟨a37, l37, rfl, h37, h⟩ := shapes_cons' h
  obtain rfl := shapes_nil' h
  unfold Shape at h0; rw [Tryz.underlying3] at h0
  obtain ⟨y0, rfl⟩ := h0
  unfold Shape at h1; rw [Tryz.underlying9] at h1
  obtain ⟨y1, rfl⟩ := h1
  unfold Shape at h2; rw [Tryz.underlying21] at h2
  obtain ⟨y2, rfl⟩ := h2
  unfold Shape at h3; rw [Tryz.underlying21] at h3
  obtain ⟨y3, rfl⟩ := h3
  unfold Shape at h4; rw [Tryz.underlying2] at h4
  obtain ⟨y4, rfl⟩ := h4
  unfold Shape at h5; rw [Tryz.underlying21] at h5
  obtain ⟨y5, rfl⟩ := h5
  unfold Shape at h6; rw [Tryz.underlying21] at h6
  obtain ⟨y6, rfl⟩ := h6
  unfold Shape at h7; rw [Tryz.underlying2] at h7
  obtain ⟨y7, rfl⟩ := h7
  unfold Shape at h8; rw [Tryz.underlying3] at h8
  obtain ⟨y8, rfl⟩ := h8
  unfold Shape at h9; rw [Tryz.underlying2] at h9
  obtain ⟨y9, rfl⟩ := h9
  unfold Shape at h10; rw [Tryz.underlying21] at h10
  obtain ⟨y10, rfl⟩ := h10
  unfold Shape at h11; rw [Tryz.underlying21] at h11
  obtain ⟨y11, rfl⟩ := h11
  unfold Shape at h12; rw [Tryz.underlying3] at h12
  obtain ⟨y12, rfl⟩ := h12
  unfold Shape at h13; rw [Tryz.underlying25] at h13
  obtain ⟨y13, rfl⟩ := h13
  unfold Shape at h14; rw [Tryz.underlying3] at h14
  obtain ⟨y14, rfl⟩ := h14
  unfold Shape at h15; rw [Tryz.underlying37] at h15
  obtain rfl := h15
  unfold Shape at h16; rw [Tryz.underlying38] at h16
  obtain rfl := h16
  unfold Shape at h17; rw [Tryz.underlying2] at h17
  obtain ⟨y15, rfl⟩ := h17
  unfold Shape at h18; rw [Tryz.underlying21] at h18
  obtain ⟨y16, rfl⟩ := h18
  unfold Shape at h19; rw [Tryz.underlying21] at h19
  obtain ⟨y17, rfl⟩ := h19
  unfold Shape at h20; rw [Tryz.underlying2] at h20
  obtain ⟨y18, rfl⟩ := h20
  unfold Shape at h21; rw [Tryz.underlying21] at h21
  obtain ⟨y19, rfl⟩ := h21
  unfold Shape at h22; rw [Tryz.underlying21] at h22
  obtain ⟨y20, rfl⟩ := h22
  unfold Shape at h23; rw [Tryz.underlying21] at h23
  obtain ⟨y21, rfl⟩ := h23
  unfold Shape at h24; rw [Tryz.underlying21] at h24
  obtain ⟨y22, rfl⟩ := h24
  unfold Shape at h25; rw [Tryz.underlying43] at h25
  obtain ⟨y23, rfl⟩ := h25
  unfold Shape at h26; rw [Tryz.underlying2] at h26
  obtain ⟨y24, rfl⟩ := h26
  unfold Shape at h27; rw [Tryz.underlying21] at h27
  obtain ⟨y25, rfl⟩ := h27
  unfold Shape at h28; rw [Tryz.underlying21] at h28
  obtain ⟨y26, rfl⟩ := h28
  unfold Shape at h29; rw [Tryz.underlying26] at h29
  obtain rfl := h29
  unfold Shape at h30; rw [Tryz.underlying2] at h30
  obtain ⟨y27, rfl⟩ := h30
  unfold Shape at h31; rw [Tryz.underlying2] at h31
  obtain ⟨y28, rfl⟩ := h31
  unfold Shape at h32; rw [Tryz.underlying21] at h32
  obtain ⟨y29, rfl⟩ := h32
  unfold Shape at h33; rw [Tryz.underlying21] at h33
  obtain ⟨y30, rfl⟩ := h33
  unfold Shape at h34; rw [Tryz.underlying3] at h34
  obtain ⟨y31, rfl⟩ := h34
  unfold Shape at h35; rw [Tryz.underlying4] at h35
  obtain ⟨y32, rfl⟩ := h35
  unfold Shape at h36; rw [Tryz.underlying3] at h36
  obtain ⟨y33, rfl⟩ := h36
  unfold Shape at h37; rw [Tryz.underlying38] at h37
  obtain rfl := h37
  exact ⟨y0, y1, y2, y3, y4, y5, y6, y7, y8, y9, y10, y11, y12, y13, y14, y15, y16, y17, y18, y19, y20, y21, y22, y23, y24, y25, y26, y27, y28, y29, y30, y31, y32, y33, rfl⟩
theorem wit_z (os : Os) : ((World.laidAll Tryz.prog os Rows.coordNilRow.laid).forCall (fun _ _ => 0) ⟨#[], #[.agg #[.int .i64 0, .string ⟨#[]⟩, .int .i32 0, .int .i32 0, .int .i64 0, .int .i32 0, .int .i32 0, .int .i64 0, .int .i64 0, .int .i64 0, .int .i32 0, .int .i32 0, .int .i64 0, .int .i64 0, .int .i64 0, .slice none 0 0, .slice none 0 0, .int .i64 0, .int .i32 0, .int .i32 0, .int .i64 0, .int .i32 0, .int .i32 0, .int .i32 0, .int .i32 0, .int .u8 0, .int .i64 0, .int .i32 0, .int .i32 0, .slice none 0 0, .int .i64 0, .int .i64 0, .int .i32 0, .int .i32 0, .int .i64 0, .bool false, .int .i64 0, .slice none 0 0]], []⟩).variablesZipB Tryz.checked.prog = true := by kernel_rfl
theorem wit_r (os : Os) : (((World.laidAll Tryz.prog os Rows.coordNilRow.laid).forCall (fun _ _ => 0) ⟨#[], #[.agg #[.int .i64 0, .string ⟨#[]⟩, .int .i32 0, .int .i32 0, .int .i64 0, .int .i32 0, .int .i32 0, .int .i64 0, .int .i64 0, .int .i64 0, .int .i32 0, .int .i32 0, .int .i64 0, .int .i64 0, .int .i64 0, .slice none 0 0, .slice none 0 0, .int .i64 0, .int .i32 0, .int .i32 0, .int .i64 0, .int .i32 0, .int .i32 0, .int .i32 0, .int .i32 0, .int .u8 0, .int .i64 0, .int .i32 0, .int .i32 0, .slice none 0 0, .int .i64 0, .int .i64 0, .int .i32 0, .int .i32 0, .int .i64 0, .bool false, .int .i64 0, .slice none 0 0]], []⟩).heap.toList.drop Tryz.checked.prog.globals.size).take ((begin Tryz.checked.prog (fun _ _ => 0) default).world.heap.size - Tryz.checked.prog.globals.size) = (begin Tryz.checked.prog (fun _ _ => 0) default).world.heap.toList.drop Tryz.checked.prog.globals.size := by kernel_rfl
theorem wit_o (os : Os) : Input.okWideB Tryz.checked.prog ((World.laidAll Tryz.prog os Rows.coordNilRow.laid).forCall (fun _ _ => 0) ⟨#[], #[.agg #[.int .i64 0, .string ⟨#[]⟩, .int .i32 0, .int .i32 0, .int .i64 0, .int .i32 0, .int .i32 0, .int .i64 0, .int .i64 0, .int .i64 0, .int .i32 0, .int .i32 0, .int .i64 0, .int .i64 0, .int .i64 0, .slice none 0 0, .slice none 0 0, .int .i64 0, .int .i32 0, .int .i32 0, .int .i64 0, .int .i32 0, .int .i32 0, .int .i32 0, .int .i32 0, .int .u8 0, .int .i64 0, .int .i32 0, .int .i32 0, .slice none 0 0, .int .i64 0, .int .i64 0, .int .i32 0, .int .i32 0, .int .i64 0, .bool false, .int .i64 0, .slice none 0 0]], []⟩) 4 ⟨#[], #[.agg #[.int .i64 0, .string ⟨#[]⟩, .int .i32 0, .int .i32 0, .int .i64 0, .int .i32 0, .int .i32 0, .int .i64 0, .int .i64 0, .int .i64 0, .int .i32 0, .int .i32 0, .int .i64 0, .int .i64 0, .int .i64 0, .slice none 0 0, .slice none 0 0, .int .i64 0, .int .i32 0, .int .i32 0, .int .i64 0, .int .i32 0, .int .i32 0, .int .i32 0, .int .i32 0, .int .u8 0, .int .i64 0, .int .i32 0, .int .i32 0, .slice none 0 0, .int .i64 0, .int .i64 0, .int .i32 0, .int .i32 0, .int .i64 0, .bool false, .int .i64 0, .slice none 0 0]], []⟩ = true := by kernel_rfl
theorem wit_p {H : Type} (enc : TypeId × Value → H) (os : Os) : Rows.coordNilSpec.preB enc Tryz.checked.prog Tryz.f4 Rows.coordNilRow.domain false ((World.laidAll Tryz.prog os Rows.coordNilRow.laid).forCall (fun _ _ => 0) ⟨#[], #[.agg #[.int .i64 0, .string ⟨#[]⟩, .int .i32 0, .int .i32 0, .int .i64 0, .int .i32 0, .int .i32 0, .int .i64 0, .int .i64 0, .int .i64 0, .int .i32 0, .int .i32 0, .int .i64 0, .int .i64 0, .int .i64 0, .slice none 0 0, .slice none 0 0, .int .i64 0, .int .i32 0, .int .i32 0, .int .i64 0, .int .i32 0, .int .i32 0, .int .i32 0, .int .i32 0, .int .u8 0, .int .i64 0, .int .i32 0, .int .i32 0, .slice none 0 0, .int .i64 0, .int .i64 0, .int .i32 0, .int .i32 0, .int .i64 0, .bool false, .int .i64 0, .slice none 0 0]], []⟩).memory #[.agg #[.int .i64 0, .string ⟨#[]⟩, .int .i32 0, .int .i32 0, .int .i64 0, .int .i32 0, .int .i32 0, .int .i64 0, .int .i64 0, .int .i64 0, .int .i32 0, .int .i32 0, .int .i64 0, .int .i64 0, .int .i64 0, .slice none 0 0, .slice none 0 0, .int .i64 0, .int .i32 0, .int .i32 0, .int .i64 0, .int .i32 0, .int .i32 0, .int .i32 0, .int .i32 0, .int .u8 0, .int .i64 0, .int .i32 0, .int .i32 0, .slice none 0 0, .int .i64 0, .int .i64 0, .int .i32 0, .int .i32 0, .int .i64 0, .bool false, .int .i64 0, .slice none 0 0]] 8 = true := by kernel_rfl
theorem wit_s {H : Type} (enc : TypeId × Value → H) (os : Os) : Rows.coordNilSpec.sizedB enc Tryz.checked.prog Tryz.f4 false ((World.laidAll Tryz.prog os Rows.coordNilRow.laid).forCall (fun _ _ => 0) ⟨#[], #[.agg #[.int .i64 0, .string ⟨#[]⟩, .int .i32 0, .int .i32 0, .int .i64 0, .int .i32 0, .int .i32 0, .int .i64 0, .int .i64 0, .int .i64 0, .int .i32 0, .int .i32 0, .int .i64 0, .int .i64 0, .int .i64 0, .slice none 0 0, .slice none 0 0, .int .i64 0, .int .i32 0, .int .i32 0, .int .i64 0, .int .i32 0, .int .i32 0, .int .i32 0, .int .i32 0, .int .u8 0, .int .i64 0, .int .i32 0, .int .i32 0, .slice none 0 0, .int .i64 0, .int .i64 0, .int .i32 0, .int .i32 0, .int .i64 0, .bool false, .int .i64 0, .slice none 0 0]], []⟩).memory #[.agg #[.int .i64 0, .string ⟨#[]⟩, .int .i32 0, .int .i32 0, .int .i64 0, .int .i32 0, .int .i32 0, .int .i64 0, .int .i64 0, .int .i64 0, .int .i32 0, .int .i32 0, .int .i64 0, .int .i64 0, .int .i64 0, .slice none 0 0, .slice none 0 0, .int .i64 0, .int .i32 0, .int .i32 0, .int .i64 0, .int .i32 0, .int .i32 0, .int .i32 0, .int .i32 0, .int .u8 0, .int .i64 0, .int .i32 0, .int .i32 0, .slice none 0 0, .int .i64 0, .int .i64 0, .int .i32 0, .int .i32 0, .int .i64 0, .bool false, .int .i64 0, .slice none 0 0]] 8 = true := by kernel_rfl
theorem wit_f (os : Os) : (World.holding Tryz.prog os ⟨#[], #[], []⟩).layFits Tryz.prog Rows.coordNilRow.laid [] = true := by kernel_rfl
theorem wit_i (os : Os) : (World.holding Tryz.prog os ⟨#[], #[], []⟩).layIfaces Tryz.prog Rows.coordNilRow.laid (World.laidAll Tryz.prog os Rows.coordNilRow.laid) = true := by kernel_rfl
theorem wit_h : (Rows.coordNilRow.laid.filter fun x => x.2.handleName?.isSome) = [] := by kernel_rfl
theorem wit_n : (Rows.coordNilRow.laid.all fun x => x.2.handleName?.isNone) = true := by kernel_rfl
set_option maxHeartbeats 4000000 in
theorem law_lifted (os : Os) (started : os.Started) (H : Type) (enc : TypeId × Value → H) :
    ReturnsInHanded {} Tryz.checked os 4 .any (fun w args => (Rows.coordNilSpec.pre enc Tryz.prog Tryz.f4 Rows.coordNilRow.domain false w args ∧ laidMetH Tryz.prog Rows.coordNilRow.laid w) ∧ sizedMet enc Tryz.prog Tryz.f4 (OpenSpec.ofChange Rows.coordNilSpec) false w args) (Rows.coordNilSpec.post enc Tryz.prog Tryz.f4 false true false false) := by
  refine returnsInHanded_of_change_and (C := Tryz.checked) (X := fun w _ => laidMetH Tryz.prog Rows.coordNilRow.laid w) (fun _ _ _ hh h => h.of_heap hh) Tryz.own started (by kernel_rfl) Tryz.func4
    (ChangeSpec.witness_shaped (enc := enc) (C := Tryz.checked) (X := fun w _ => laidMetH Tryz.prog Rows.coordNilRow.laid w) false (World.laidAll Tryz.prog os Rows.coordNilRow.laid) #[.agg #[.int .i64 0, .string ⟨#[]⟩, .int .i32 0, .int .i32 0, .int .i64 0, .int .i32 0, .int .i32 0, .int .i64 0, .int .i64 0, .int .i64 0, .int .i32 0, .int .i32 0, .int .i64 0, .int .i64 0, .int .i64 0, .slice none 0 0, .slice none 0 0, .int .i64 0, .int .i32 0, .int .i32 0, .int .i64 0, .int .i32 0, .int .i32 0, .int .i32 0, .int .i32 0, .int .u8 0, .int .i64 0, .int .i32 0, .int .i32 0, .slice none 0 0, .int .i64 0, .int .i64 0, .int .i32 0, .int .i32 0, .int .i64 0, .bool false, .int .i64 0, .slice none 0 0]] 8 (World.laidAll_os _ _ _) (World.shaped_of_ZipB (wit_z os) (wit_r os)) (wit_o os) (wit_p enc os) (wit_s enc os)
      (by rw [MakeChecks.laidMetH_plain _ _ _ wit_n]; exact laidMet_laidAll _ (wit_f os) (wit_i os))) ?_
  intro W base args ds gs before hval0 hW _ _ hL _
  have hW' := hW
  obtain ⟨p, q, hA, hV, rfl, hfz, hnd⟩ := hW
  rw [Tryz.params4] at hA hval0
  obtain ⟨v0, vs0, d0, ds0, p0, q0, e0, rfl, rfl, h0, hA⟩ := trodAll_cons hA
  obtain ⟨rfl, rfl, rfl⟩ := trodAll_nil hA
  obtain ⟨rfl, rfl⟩ := trodVars_none hV
  obtain rfl : args = #[v0] := Array.toList_inj.1 e0
  have r0 : ∃ l, Shapes Tryz.prog [3, 9, 21, 21, 2, 21, 21, 2, 3, 2, 21, 21, 3, 25, 3, 37, 38, 2, 21, 21, 2, 21, 21, 21, 21, 43, 2, 21, 21, 26, 2, 2, 21, 21, 3, 4, 3, 38] l ∧ ∀ μ, AV.rel μ (.agg l) v0 := agg_shapes (ts := [3, 9, 21, 21, 2, 21, 21, 2, 3, 2, 21, 21, 3, 25, 3, 37, 38, 2, 21, 21, 2, 21, 21, 21, 21, 43, 2, 21, 21, 26, 2, 2, 21, 21, 3, 4, 3, 38]) Tryz.underlying58 (by kernel_rfl) (by kernel_rfl) (hval0 0 58 v0 rfl rfl)
  obtain ⟨l0, hs0, r0⟩ := r0
  obtain ⟨x0, x1, x2, x3, x4, x5, x6, x7, x8, x9, x10, x11, x12, x13, x14, x15, x16, x17, x18, x19, x20, x21, x22, x23, x24, x25, x26, x27, x28, x29, x30, x31, x32, x33, rfl⟩ := shape0 hs0
  refine (lawG g4_ok (fun args w => by simp) hL wit_h (fun μ => AV.relL_cons_cons.2 ⟨r0 μ, AV.relL_nil.2 rfl⟩) (fun ts us => law_ok ts us x0 x1 x2 x3 x4 x5 x6 x7 x8 x9 x10 x11 x12 x13 x14 x15 x16 x17 x18 x19 x20 x21 x22 x23 x24 x25 x26 x27 x28 x29 x30 x31 x32 x33)).mono fun e W' ⟨he, hb⟩ => ?_
  subst he
  exact ⟨_, rfl, post_of_below rfl Tryz.laidOut (pars_ok (by rw [Tryz.params4]; kernel_rfl)) hW' hb rfl rfl (fun b sp hd => bool_res (t := 4) (by kernel_rfl) Tryz.underlying4 true b sp hd)⟩
end Go.Proofs.YtgpndbkghmbacaaGreatDoor
