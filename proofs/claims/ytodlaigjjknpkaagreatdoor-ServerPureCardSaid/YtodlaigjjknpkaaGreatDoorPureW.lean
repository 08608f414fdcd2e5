import Derived.Test.YtodlaigjjknpkaaGreatDoorCards
import Derived.Test.YtodlaigjjknpkaaGreatDoorSvU
import Derived.Test.YtodlaigjjknpkaaGreatDoorPureR
import Derived.Lay
import Derived.LaidLaws
import Derived.MakeChecks
import Derived.SevenTiedAt
namespace Go.Proofs.YtodlaigjjknpkaaGreatDoor
open Go Go.Am Go.ChangeShapes Go.WideShapes Go.ChangeAt Go.RowKit
set_option maxRecDepth 100000
set_option linter.all false
theorem Tryz.own : ownKnob Tryz.prog.godebug = none:=by kernel_rfl
theorem Tryz.laidOut : laidOutB Tryz.prog = true:=by kernel_rfl
theorem hg_is (ts us : Nat→Nat) : Hg (ZR Tryz.prog Rows.serverPureRow.laid ts us) = JT ts us:=by kernel_rfl
theorem Qq {P : Program} {t : Nat} {ts : List Nat} {l : List AV} (h : W8 P (t :: ts) l) : ∃ a l',l = a :: l' ∧ QM P t a ∧ W8 P ts l':=by
  cases l with
  | nil=>exact h.elim
  | cons a l=>exact ⟨a,l,rfl,h.1,h.2⟩
theorem Ky {P : Program} {l : List AV} (h : W8 P [] l) : l = []:=by
  cases l with
  | nil=>rfl
  | cons a l=>exact h.elim
theorem shape0 {l : List AV} (h : W8 Tryz.prog [3,22,2,2,2,23,3,3,3,3] l) : ∃ x0 x1 x2 x3 x4 x5 x6 x7,l = [.int .i64 x0,.junk,.int .i64 x1,.int .i64 x2,.int .i64 x3,.junk,.int .i64 x4,.int .i64 x5,.int .i64 x6,.int .i64 x7]:=by
  obtain ⟨a0,l0,rfl,h0,h⟩:=Qq h
  obtain ⟨a1,l1,rfl,h1,h⟩:=Qq h
  obtain ⟨a2,l2,rfl,h2,h⟩:=Qq h
  obtain ⟨a3,l3,rfl,h3,h⟩:=Qq h
  obtain ⟨a4,l4,rfl,h4,h⟩:=Qq h
  obtain ⟨a5,l5,rfl,h5,h⟩:=Qq h
  obtain ⟨a6,l6,rfl,h6,h⟩:=Qq h
  obtain ⟨a7,l7,rfl,h7,h⟩:=Qq h
  obtain ⟨a8,l8,rfl,h8,h⟩:=Qq h
  obtain ⟨a9,l9,rfl,h9,h⟩:=Qq h
  obtain rfl:=Ky h
  unfold QM at h0; rw [Tryz.underlying3] at h0
  obtain ⟨y0,rfl⟩:=h0
  unfold QM at h1; rw [Tryz.underlying22] at h1
  obtain rfl:=h1
  unfold QM at h2; rw [Tryz.underlying2] at h2
  obtain ⟨y1,rfl⟩:=h2
  unfold QM at h3; rw [Tryz.underlying2] at h3
  obtain ⟨y2,rfl⟩:=h3
  unfold QM at h4; rw [Tryz.underlying2] at h4
  obtain ⟨y3,rfl⟩:=h4
  unfold QM at h5; rw [Tryz.underlying23] at h5
  obtain rfl:=h5
  unfold QM at h6; rw [Tryz.underlying3] at h6
  obtain ⟨y4,rfl⟩:=h6
  unfold QM at h7; rw [Tryz.underlying3] at h7
  obtain ⟨y5,rfl⟩:=h7
  unfold QM at h8; rw [Tryz.underlying3] at h8
  obtain ⟨y6,rfl⟩:=h8
  unfold QM at h9; rw [Tryz.underlying3] at h9
  obtain ⟨y7,rfl⟩:=h9
  exact ⟨y0,y1,y2,y3,y4,y5,y6,y7,rfl⟩
theorem shape1 {l : List AV} (h : W8 Tryz.prog [2,3,2,21,21,3,21,21,2,21,21,2,21,21,9,9,9,2,21,21,2,21,21,2,21,21,22,34,4,4,21,21,35,2,21,21,22,2,2,21,21,38] l) : ∃ x8 x9 x10 x11 x12 x13 x14 x15 x16 x17 x18 x19 x20 x21 x22 x23 x24 x25 x26 x27 x28 x29 x30 x31 x32 x33 x34 x35 x36 x37 x38 x39 x40 x41 x42 x43 x44 x45,l = [.int .i64 x8,.int .i64 x9,.int .i64 x10,.int .i32 x11,.int .i32 x12,.int .i64 x13,.int .i32 x14,.int .i32 x15,.int .i64 x16,.int .i32 x17,.int .i32 x18,.int .i64 x19,.int .i32 x20,.int .i32 x21,.str (Str.of x22),.str (Str.of x23),.str (Str.of x24),.int .i64 x25,.int .i32 x26,.int .i32 x27,.int .i64 x28,.int .i32 x29,.int .i32 x30,.int .i64 x31,.int .i32 x32,.int .i32 x33,.junk,.junk,.bool x34,.bool x35,.int .i32 x36,.int .i32 x37,.int .u8 x38,.int .i64 x39,.int .i32 x40,.int .i32 x41,.junk,.int .i64 x42,.int .i64 x43,.int .i32 x44,.int .i32 x45,.junk]:=by
  obtain ⟨a0,l0,rfl,h0,h⟩:=Qq h
  obtain ⟨a1,l1,rfl,h1,h⟩:=Qq h
  obtain ⟨a2,l2,rfl,h2,h⟩:=Qq h
  obtain ⟨a3,l3,rfl,h3,h⟩:=Qq h
  obtain ⟨a4,l4,rfl,h4,h⟩:=Qq h
  obtain ⟨a5,l5,rfl,h5,h⟩:=Qq h
  obtain ⟨a6,l6,rfl,h6,h⟩:=Qq h
  obtain ⟨a7,l7,rfl,h7,h⟩:=Qq h
  obtain ⟨a8,l8,rfl,h8,h⟩:=Qq h
  obtain ⟨a9,l9,rfl,h9,h⟩:=Qq h
  obtain ⟨a10,l10,rfl,h10,h⟩:=Qq h
  obtain ⟨a11,l11,rfl,h11,h⟩:=Qq h
  obtain ⟨a12,l12,rfl,h12,h⟩:=Qq h
  obtain ⟨a13,l13,rfl,h13,h⟩:=Qq h
  obtain ⟨a14,l14,rfl,h14,h⟩:=Qq h
  obtain ⟨a15,l15,rfl,h15,h⟩:=Qq h
  obtain ⟨a16,l16,rfl,h16,h⟩:=Qq h
  obtain ⟨a17,l17,rfl,h17,h⟩:=Qq h
  obtain ⟨a18,l18,rfl,h18,h⟩:=Qq h
  obtain ⟨a19,l19,rfl,h19,h⟩:=Qq h
  obtain ⟨a20,l20,rfl,h20,h⟩:=Qq h
  obtain ⟨a21,l21,rfl,h21,h⟩:=Qq h
  obtain ⟨a22,l22,rfl,h22,h⟩:=Qq h
  obtain ⟨a23,l23,rfl,h23,h⟩:=Qq h
  obtain ⟨a24,l24,rfl,h24,h⟩:=Qq h
  obtain ⟨a25,l25,rfl,h25,h⟩:=Qq h
  obtain ⟨a26,l26,rfl,h26,h⟩:=Qq h
  obtain ⟨a27,l27,rfl,h27,h⟩:=Qq h
  obtain ⟨a28,l28,rfl,h28,h⟩:=Qq h
  obtain ⟨a29,l29,rfl,h29,h⟩:=Qq h
  obtain ⟨a30,l30,rfl,h30,h⟩:=Qq h
  obtain ⟨a31,l31,rfl,h31,h⟩:=Qq h
  obtain ⟨a32,l32,rfl,h32,h⟩:=Qq h
  obtain ⟨a33,l33,rfl,h33,h⟩:=Qq h
  obtain ⟨a34,l34,rfl,h34,h⟩:=Qq h
  obtain ⟨a35,l35,rfl,h35,h⟩:=Qq h
  obtain ⟨a36,l36,rfl,h36,h⟩:=Qq h
  obtain ⟨a37,l37,rfl,h37,h⟩:=Qq h
  obtain ⟨a38,l38,rfl,h38,h⟩:=Qq h
  obtain ⟨a39,l39,rfl,h39,h⟩:=Qq h
  obtain ⟨a40,l40,rfl,h40,h⟩:=Qq h
  obtain ⟨a41,l41,rfl,h41,h⟩:=Qq h
  obtain rfl:=Ky h
  unfold QM at h0; rw [Tryz.underlying2] at h0
  obtain ⟨y0,rfl⟩:=h0
  unfold QM at h1; rw [Tryz.underlying3] at h1
  obtain ⟨y1,rfl⟩:=h1
  unfold QM at h2; rw [Tryz.underlying2] at h2
  obtain ⟨y2,rfl⟩:=h2
  unfold QM at h3; rw [Tryz.underlying21] at h3
  obtain ⟨y3,rfl⟩:=h3
  unfold QM at h4; rw [Tryz.underlying21] at h4
  obtain ⟨y4,rfl⟩:=h4
  unfold QM at h5; rw [Tryz.underlying3] at h5
  obtain ⟨y5,rfl⟩:=h5
  unfold QM at h6; rw [Tryz.underlying21] at h6
  obtain ⟨y6,rfl⟩:=h6
  unfold QM at h7; rw [Tryz.underlying21] at h7
  obtain ⟨y7,rfl⟩:=h7
  unfold QM at h8; rw [Tryz.underlying2] at h8
  obtain ⟨y8,rfl⟩:=h8
  unfold QM at h9; rw [Tryz.underlying21] at h9
  obtain ⟨y9,rfl⟩:=h9
  unfold QM at h10; rw [Tryz.underlying21] at h10
  obtain ⟨y10,rfl⟩:=h10
  unfold QM at h11; rw [Tryz.underlying2] at h11
  obtain ⟨y11,rfl⟩:=h11
  unfold QM at h12; rw [Tryz.underlying21] at h12
  obtain ⟨y12,rfl⟩:=h12
  unfold QM at h13; rw [Tryz.underlying21] at h13
  obtain ⟨y13,rfl⟩:=h13
  unfold QM at h14; rw [Tryz.underlying9] at h14
  obtain ⟨y14,rfl⟩:=h14
  unfold QM at h15; rw [Tryz.underlying9] at h15
  obtain ⟨y15,rfl⟩:=h15
  unfold QM at h16; rw [Tryz.underlying9] at h16
  obtain ⟨y16,rfl⟩:=h16
  unfold QM at h17; rw [Tryz.underlying2] at h17
  obtain ⟨y17,rfl⟩:=h17
  unfold QM at h18; rw [Tryz.underlying21] at h18
  obtain ⟨y18,rfl⟩:=h18
  unfold QM at h19; rw [Tryz.underlying21] at h19
  obtain ⟨y19,rfl⟩:=h19
  unfold QM at h20; rw [Tryz.underlying2] at h20
  obtain ⟨y20,rfl⟩:=h20
  unfold QM at h21; rw [Tryz.underlying21] at h21
  obtain ⟨y21,rfl⟩:=h21
  unfold QM at h22; rw [Tryz.underlying21] at h22
  obtain ⟨y22,rfl⟩:=h22
  unfold QM at h23; rw [Tryz.underlying2] at h23
  obtain ⟨y23,rfl⟩:=h23
  unfold QM at h24; rw [Tryz.underlying21] at h24
  obtain ⟨y24,rfl⟩:=h24
  unfold QM at h25; rw [Tryz.underlying21] at h25
  obtain ⟨y25,rfl⟩:=h25
  unfold QM at h26; rw [Tryz.underlying22] at h26
  obtain rfl:=h26
  unfold QM at h27; rw [Tryz.underlying34] at h27
  obtain rfl:=h27
  unfold QM at h28; rw [Tryz.underlying4] at h28
  obtain ⟨y26,rfl⟩:=h28
  unfold QM at h29; rw [Tryz.underlying4] at h29
  obtain ⟨y27,rfl⟩:=h29
  unfold QM at h30; rw [Tryz.underlying21] at h30
  obtain ⟨y28,rfl⟩:=h30
  unfold QM at h31; rw [Tryz.underlying21] at h31
  obtain ⟨y29,rfl⟩:=h31
  unfold QM at h32; rw [Tryz.underlying35] at h32
  obtain ⟨y30,rfl⟩:=h32
  unfold QM at h33; rw [Tryz.underlying2] at h33
  obtain ⟨y31,rfl⟩:=h33
  unfold QM at h34; rw [Tryz.underlying21] at h34
  obtain ⟨y32,rfl⟩:=h34
  unfold QM at h35; rw [Tryz.underlying21] at h35
  obtain ⟨y33,rfl⟩:=h35
  unfold QM at h36; rw [Tryz.underlying22] at h36
  obtain rfl:=h36
  unfold QM at h37; rw [Tryz.underlying2] at h37
  obtain ⟨y34,rfl⟩:=h37
  unfold QM at h38; rw [Tryz.underlying2] at h38
  obtain ⟨y35,rfl⟩:=h38
  unfold QM at h39; rw [Tryz.underlying21] at h39
  obtain ⟨y36,rfl⟩:=h39
  unfold QM at h40; rw [Tryz.underlying21] at h40
  obtain ⟨y37,rfl⟩:=h40
  unfold QM at h41; rw [Tryz.underlying38] at h41
  obtain rfl:=h41
  exact ⟨y0,y1,y2,y3,y4,y5,y6,y7,y8,y9,y10,y11,y12,y13,y14,y15,y16,y17,y18,y19,y20,y21,y22,y23,y24,y25,y26,y27,y28,y29,y30,y31,y32,y33,y34,y35,y36,y37,rfl⟩
theorem wit_z (os : Os) : ((World.laidAll Tryz.prog os Rows.serverPureRow.laid).forCall (fun _ _=>0) ⟨#[],#[.agg #[.int .i64 0,.slice none 0 0,.int .i64 0,.int .i64 0,.int .i64 0,.slice none 0 0,.int .i64 0,.int .i64 0,.int .i64 0,.int .i64 0],.agg #[.int .i64 0,.int .i64 0,.int .i64 0,.int .i32 0,.int .i32 0,.int .i64 0,.int .i32 0,.int .i32 0,.int .i64 0,.int .i32 0,.int .i32 0,.int .i64 0,.int .i32 0,.int .i32 0,.string ⟨#[]⟩,.string ⟨#[]⟩,.string ⟨#[]⟩,.int .i64 0,.int .i32 0,.int .i32 0,.int .i64 0,.int .i32 0,.int .i32 0,.int .i64 0,.int .i32 0,.int .i32 0,.slice none 0 0,.slice none 0 0,.bool false,.bool false,.int .i32 0,.int .i32 0,.int .u8 0,.int .i64 0,.int .i32 0,.int .i32 0,.slice none 0 0,.int .i64 0,.int .i64 0,.int .i32 0,.int .i32 0,.slice none 0 0]],[]⟩).variablesZipB Tryz.checked.prog = true:=by kernel_rfl
theorem wit_r (os : Os) : (((World.laidAll Tryz.prog os Rows.serverPureRow.laid).forCall (fun _ _=>0) ⟨#[],#[.agg #[.int .i64 0,.slice none 0 0,.int .i64 0,.int .i64 0,.int .i64 0,.slice none 0 0,.int .i64 0,.int .i64 0,.int .i64 0,.int .i64 0],.agg #[.int .i64 0,.int .i64 0,.int .i64 0,.int .i32 0,.int .i32 0,.int .i64 0,.int .i32 0,.int .i32 0,.int .i64 0,.int .i32 0,.int .i32 0,.int .i64 0,.int .i32 0,.int .i32 0,.string ⟨#[]⟩,.string ⟨#[]⟩,.string ⟨#[]⟩,.int .i64 0,.int .i32 0,.int .i32 0,.int .i64 0,.int .i32 0,.int .i32 0,.int .i64 0,.int .i32 0,.int .i32 0,.slice none 0 0,.slice none 0 0,.bool false,.bool false,.int .i32 0,.int .i32 0,.int .u8 0,.int .i64 0,.int .i32 0,.int .i32 0,.slice none 0 0,.int .i64 0,.int .i64 0,.int .i32 0,.int .i32 0,.slice none 0 0]],[]⟩).heap.toList.drop Tryz.checked.prog.globals.size).take ((begin Tryz.checked.prog (fun _ _=>0) default).world.heap.size - Tryz.checked.prog.globals.size) = (begin Tryz.checked.prog (fun _ _=>0) default).world.heap.toList.drop Tryz.checked.prog.globals.size:=by kernel_rfl
theorem wit_o (os : Os) : Input.okWideB Tryz.checked.prog ((World.laidAll Tryz.prog os Rows.serverPureRow.laid).forCall (fun _ _=>0) ⟨#[],#[.agg #[.int .i64 0,.slice none 0 0,.int .i64 0,.int .i64 0,.int .i64 0,.slice none 0 0,.int .i64 0,.int .i64 0,.int .i64 0,.int .i64 0],.agg #[.int .i64 0,.int .i64 0,.int .i64 0,.int .i32 0,.int .i32 0,.int .i64 0,.int .i32 0,.int .i32 0,.int .i64 0,.int .i32 0,.int .i32 0,.int .i64 0,.int .i32 0,.int .i32 0,.string ⟨#[]⟩,.string ⟨#[]⟩,.string ⟨#[]⟩,.int .i64 0,.int .i32 0,.int .i32 0,.int .i64 0,.int .i32 0,.int .i32 0,.int .i64 0,.int .i32 0,.int .i32 0,.slice none 0 0,.slice none 0 0,.bool false,.bool false,.int .i32 0,.int .i32 0,.int .u8 0,.int .i64 0,.int .i32 0,.int .i32 0,.slice none 0 0,.int .i64 0,.int .i64 0,.int .i32 0,.int .i32 0,.slice none 0 0]],[]⟩) 3 ⟨#[],#[.agg #[.int .i64 0,.slice none 0 0,.int .i64 0,.int .i64 0,.int .i64 0,.slice none 0 0,.int .i64 0,.int .i64 0,.int .i64 0,.int .i64 0],.agg #[.int .i64 0,.int .i64 0,.int .i64 0,.int .i32 0,.int .i32 0,.int .i64 0,.int .i32 0,.int .i32 0,.int .i64 0,.int .i32 0,.int .i32 0,.int .i64 0,.int .i32 0,.int .i32 0,.string ⟨#[]⟩,.string ⟨#[]⟩,.string ⟨#[]⟩,.int .i64 0,.int .i32 0,.int .i32 0,.int .i64 0,.int .i32 0,.int .i32 0,.int .i64 0,.int .i32 0,.int .i32 0,.slice none 0 0,.slice none 0 0,.bool false,.bool false,.int .i32 0,.int .i32 0,.int .u8 0,.int .i64 0,.int .i32 0,.int .i32 0,.slice none 0 0,.int .i64 0,.int .i64 0,.int .i32 0,.int .i32 0,.slice none 0 0]],[]⟩ = true:=by kernel_rfl
theorem wit_p {H : Type} (enc : TypeId × Value→H) (os : Os) : Rows.serverPureSpec.preB enc Tryz.checked.prog Tryz.f3 Rows.serverPureRow.domain false ((World.laidAll Tryz.prog os Rows.serverPureRow.laid).forCall (fun _ _=>0) ⟨#[],#[.agg #[.int .i64 0,.slice none 0 0,.int .i64 0,.int .i64 0,.int .i64 0,.slice none 0 0,.int .i64 0,.int .i64 0,.int .i64 0,.int .i64 0],.agg #[.int .i64 0,.int .i64 0,.int .i64 0,.int .i32 0,.int .i32 0,.int .i64 0,.int .i32 0,.int .i32 0,.int .i64 0,.int .i32 0,.int .i32 0,.int .i64 0,.int .i32 0,.int .i32 0,.string ⟨#[]⟩,.string ⟨#[]⟩,.string ⟨#[]⟩,.int .i64 0,.int .i32 0,.int .i32 0,.int .i64 0,.int .i32 0,.int .i32 0,.int .i64 0,.int .i32 0,.int .i32 0,.slice none 0 0,.slice none 0 0,.bool false,.bool false,.int .i32 0,.int .i32 0,.int .u8 0,.int .i64 0,.int .i32 0,.int .i32 0,.slice none 0 0,.int .i64 0,.int .i64 0,.int .i32 0,.int .i32 0,.slice none 0 0]],[]⟩).memory #[.agg #[.int .i64 0,.slice none 0 0,.int .i64 0,.int .i64 0,.int .i64 0,.slice none 0 0,.int .i64 0,.int .i64 0,.int .i64 0,.int .i64 0],.agg #[.int .i64 0,.int .i64 0,.int .i64 0,.int .i32 0,.int .i32 0,.int .i64 0,.int .i32 0,.int .i32 0,.int .i64 0,.int .i32 0,.int .i32 0,.int .i64 0,.int .i32 0,.int .i32 0,.string ⟨#[]⟩,.string ⟨#[]⟩,.string ⟨#[]⟩,.int .i64 0,.int .i32 0,.int .i32 0,.int .i64 0,.int .i32 0,.int .i32 0,.int .i64 0,.int .i32 0,.int .i32 0,.slice none 0 0,.slice none 0 0,.bool false,.bool false,.int .i32 0,.int .i32 0,.int .u8 0,.int .i64 0,.int .i32 0,.int .i32 0,.slice none 0 0,.int .i64 0,.int .i64 0,.int .i32 0,.int .i32 0,.slice none 0 0]] 8 = true:=by kernel_rfl
theorem wit_s {H : Type} (enc : TypeId × Value→H) (os : Os) : Rows.serverPureSpec.sizedB enc Tryz.checked.prog Tryz.f3 false ((World.laidAll Tryz.prog os Rows.serverPureRow.laid).forCall (fun _ _=>0) ⟨#[],#[.agg #[.int .i64 0,.slice none 0 0,.int .i64 0,.int .i64 0,.int .i64 0,.slice none 0 0,.int .i64 0,.int .i64 0,.int .i64 0,.int .i64 0],.agg #[.int .i64 0,.int .i64 0,.int .i64 0,.int .i32 0,.int .i32 0,.int .i64 0,.int .i32 0,.int .i32 0,.int .i64 0,.int .i32 0,.int .i32 0,.int .i64 0,.int .i32 0,.int .i32 0,.string ⟨#[]⟩,.string ⟨#[]⟩,.string ⟨#[]⟩,.int .i64 0,.int .i32 0,.int .i32 0,.int .i64 0,.int .i32 0,.int .i32 0,.int .i64 0,.int .i32 0,.int .i32 0,.slice none 0 0,.slice none 0 0,.bool false,.bool false,.int .i32 0,.int .i32 0,.int .u8 0,.int .i64 0,.int .i32 0,.int .i32 0,.slice none 0 0,.int .i64 0,.int .i64 0,.int .i32 0,.int .i32 0,.slice none 0 0]],[]⟩).memory #[.agg #[.int .i64 0,.slice none 0 0,.int .i64 0,.int .i64 0,.int .i64 0,.slice none 0 0,.int .i64 0,.int .i64 0,.int .i64 0,.int .i64 0],.agg #[.int .i64 0,.int .i64 0,.int .i64 0,.int .i32 0,.int .i32 0,.int .i64 0,.int .i32 0,.int .i32 0,.int .i64 0,.int .i32 0,.int .i32 0,.int .i64 0,.int .i32 0,.int .i32 0,.string ⟨#[]⟩,.string ⟨#[]⟩,.string ⟨#[]⟩,.int .i64 0,.int .i32 0,.int .i32 0,.int .i64 0,.int .i32 0,.int .i32 0,.int .i64 0,.int .i32 0,.int .i32 0,.slice none 0 0,.slice none 0 0,.bool false,.bool false,.int .i32 0,.int .i32 0,.int .u8 0,.int .i64 0,.int .i32 0,.int .i32 0,.slice none 0 0,.int .i64 0,.int .i64 0,.int .i32 0,.int .i32 0,.slice none 0 0]] 8 = true:=by kernel_rfl
theorem wit_f (os : Os) : (World.holding Tryz.prog os ⟨#[],#[],[]⟩).layFits Tryz.prog Rows.serverPureRow.laid [] = true:=by kernel_rfl
theorem wit_i (os : Os) : (World.holding Tryz.prog os ⟨#[],#[],[]⟩).layIfaces Tryz.prog Rows.serverPureRow.laid (World.laidAll Tryz.prog os Rows.serverPureRow.laid) = true:=by kernel_rfl
theorem wit_h : (Rows.serverPureRow.laid.filter fun x=>x.2.handleName?.isSome) = []:=by kernel_rfl
theorem wit_n : (Rows.serverPureRow.laid.all fun x=>x.2.handleName?.isNone) = true:=by kernel_rfl
end Go.Proofs.YtodlaigjjknpkaaGreatDoor
