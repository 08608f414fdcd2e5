/- Functions as they are reckoned. MADE BY PROGRAM (wip/tools/shal.py). -/
import Derived.Test.YtlbigopkplckaaaAmS0
namespace Go.Proofs.Ytlbigopkplckaaa
open Go Go.Am
set_option maxRecDepth 100000
set_option linter.all false
/-- stagepost/stagepostref23.Lay -/
noncomputable def s14G (J : Joins) (c17 : AV → H → (Int → H → Prop) → Prop) (c38 : Str → H → (Str → H → Prop) → Prop) (c39 : AV → H → (Str → H → Prop) → Prop) (c40 : AV → Str → Bool → H → (Str → H → Prop) → Prop) (c42 : AV → Int → H → (AV → H → Prop) → Prop) (a0 : AV) (h : H) (k : AV → Int → H → Prop) : Prop :=
Go.Am.asAgg a0 fun l3 =>
pushK (.cells false 41 l3) h fun n1 h2 =>
pushK (.cells false 23 [(.str ⟨0, 0⟩), (.str ⟨0, 0⟩), (.bool false)]) h2 fun n4 h5 =>
ldN 12 (AV.ptr n1 0) h5 fun l6 =>
c17 (AV.agg l6) h5 fun x8 h7 =>
fB (Bool.not (eqI x8 (Int.ofNat 0))) fun b9 =>
br b9 (
stN 3 (AV.ptr n4 0) [(.str ⟨0, 0⟩), (.str ⟨0, 0⟩), (.bool false)] h7 fun h10 =>
ldN 3 (AV.ptr n4 0) h10 fun l11 =>
k (AV.agg l11) x8 h10) (
ldI .i32 (AV.ptr n1 1) h7 fun x12 =>
fI (wrapF .u64 x12) fun x13 =>
c42 AV.nils x13 h7 fun v15 h14 =>
ldI .i32 (AV.ptr n1 2) h14 fun x16 =>
fI (wrapF .u64 x16) fun x17 =>
c42 v15 x17 h14 fun v19 h18 =>
ldN 3 (AV.ptr n1 3) h18 fun l20 =>
c39 (AV.agg l20) h18 fun s22 h21 =>
apB .str 5 v19 (AV.str s22) h21 fun v23 h24 =>
ldN 3 (AV.ptr n1 7) h24 fun l25 =>
c39 (AV.agg l25) h24 fun s27 h26 =>
apB .str 5 v23 (AV.str s27) h26 fun v28 h29 =>
ldS (AV.ptr n1 6) h29 fun s30 =>
fI (wrapF .u64 (Int.ofNat s30.len)) fun x31 =>
c42 v28 x31 h29 fun v33 h32 =>
ldS (AV.ptr n1 6) h32 fun s34 =>
apB .str 5 v33 (AV.str s34) h32 fun v35 h36 =>
ldS (AV.ptr n1 0) h36 fun s37 =>
ldS (AV.ptr n1 10) h36 fun s38 =>
ldB (AV.ptr n1 11) h36 fun b39 =>
c38 s37 h36 fun s41 h40 =>
ck (readsSo (aLoad1 (AV.ptr n1 11) h40) (AV.bool b39)) (
ck (readsSo (aLoad1 (AV.ptr n1 10) h40) (AV.str s38)) (
ck (Nat.ble (Nat.add (⟨1, 105⟩ : Str).len s41.len) 9223372036854775807) (fS (Str.cat (⟨1, 105⟩ : Str) s41) fun s42 =>
c40 v35 s38 b39 h40 fun s44 h43 =>
stN 3 (AV.ptr n4 0) [(AV.str s42), (AV.str s44), (.bool false)] h43 fun h45 =>
ldN 3 (AV.ptr n4 0) h45 fun l46 =>
k (AV.agg l46) (Int.ofNat 0) h45))))
noncomputable def s14 : AV → H → (AV → Int → H → Prop) → Prop := s14G J0 s17 s38 s39 s40 s42
noncomputable def w14 (c : AV → H → (AV → Int → H → Prop) → Prop) : Fun := fun xs h k => arg xs fun a0 xs => noArg xs <| c a0 h fun r0 r1 h => k (.tuple [r0, (.int .i64 r1)]) h
theorem s14_eq (J : Joins) (c17 : AV → H → (Int → H → Prop) → Prop) (c38 : Str → H → (Str → H → Prop) → Prop) (c39 : AV → H → (Str → H → Prop) → Prop) (c40 : AV → Str → Bool → H → (Str → H → Prop) → Prop) (c42 : AV → Int → H → (AV → H → Prop) → Prop) (a0 : AV) (h : H) (k : AV → H → Prop) : denF ty (gam J [(17, w17 c17), (38, w38 c38), (39, w39 c39), (40, w40 c40), (42, w42 c42)]) Try.f14 [a0] h k = s14G J c17 c38 c39 c40 c42 a0 h (fun r0 r1 h => k (.tuple [r0, (.int .i64 r1)]) h) := by kernel_rfl
noncomputable def g14 : Fun := w14 s14
theorem g14_ok : FunOk Try.prog 14 g14 := (fun_ok ty_ok mixed (gam_ok (J := J0) (tab_cons g17_ok (tab_cons g38_ok (tab_cons g39_ok (tab_cons g40_ok (tab_cons g42_ok (tab_nil fls_fun))))))) Try.func14 (fun args w => by simp)).imp fun xs h k e0 => by
  obtain ⟨a0, xs0, rfl, e1⟩ := arg_imp e0
  obtain ⟨rfl, e2⟩ := noArg_imp e1
  exact (s14_eq J0 s17 s38 s39 s40 s42 a0 h k).mpr e2
/-- stagepost/record.rising -/
noncomputable def s82G (J : Joins) (a0 : AV) (h : H) (k : Bool → H → Prop) : Prop :=
lenK a0 fun x1 =>
J.lp (α := AV × AV × AV × AV × Unit) (fun r5 v2 d3 h4 =>
asI .i64 v2.2.2.2.1 fun x6 =>
asI .i64 v2.2.2.1 fun x7 =>
fB (ltI x6 x7) fun b8 =>
br b8 (
ixK 1 v2.2.1 v2.2.2.2.1 fun p9 =>
ldS p9 h4 fun s10 =>
fB (Str.beq s10 (⟨0, 0⟩ : Str)) fun b11 =>
J.jn (fun v12 h13 =>
J.jn (fun v15 h16 =>
J.jn (fun v20 h21 =>
J.jn (fun v23 h24 =>
J.jn (fun v26 h27 =>
J.jn (fun v29 h30 =>
J.jn (fun v34 h35 =>
J.jn (fun v38 h39 =>
J.jn (fun v42 h43 =>
J.jn (fun v45 h46 =>
J.jn (fun v51 h52 =>
pickB (AV.bool b11) (AV.bool true) v51 fun b55 =>
br b55 (
leaveK (gam J []) d3 h52 fun h56 =>
k false h56) (
asI .i64 v2.2.2.2.1 fun x57 =>
fI (wrapF .i64 (Int.add x57 (Int.ofNat 1))) fun x58 =>
r5 (v2.1, v2.2.1, v2.2.2.1, (AV.int .i64 x58), ()) d3 h52)) fun j53 =>
br b11 (
j53 skipV h46) (
pickB v20 v45 (AV.bool false) fun b54 =>
j53 (AV.bool b54) h46)) fun j47 =>
asBU v20 (fun b59 =>
br b59 (
asS v38 fun s48 =>
asS v42 fun s49 =>
fB (Bool.not (Str.lt s48 s49)) fun b50 =>
j47 (AV.bool b50) h43) (
j47 skipV h43)) (
j47 skipV h43)) fun j44 =>
asBU v20 (fun b60 =>
br b60 (
j44 (AV.str s10) h39) (
j44 skipV h39)) (
j44 skipV h39)) fun j40 =>
asBU v20 (fun b61 =>
br b61 (
ldS v34 h35 fun s41 =>
j40 (AV.str s41) h35) (
j40 skipV h35)) (
j40 skipV h35)) fun j36 =>
asBU v20 (fun b62 =>
br b62 (
ixK 1 v23 v29 fun p37 =>
j36 p37 h30) (
j36 skipV h30)) (
j36 skipV h30)) fun j31 =>
asBU v20 (fun b63 =>
br b63 (
asI .i64 v26 fun x32 =>
fI (wrapF .i64 (Int.sub x32 (Int.ofNat 1))) fun x33 =>
j31 (AV.int .i64 x33) h27) (
j31 skipV h27)) (
j31 skipV h27)) fun j28 =>
asBU v20 (fun b64 =>
br b64 (
j28 v2.2.2.2.1 h24) (
j28 skipV h24)) (
j28 skipV h24)) fun j25 =>
asBU v20 (fun b65 =>
br b65 (
j25 v2.1 h21) (
j25 skipV h21)) (
j25 skipV h21)) fun j22 =>
br b11 (
j22 skipV h16) (
j22 v15 h16)) fun j17 =>
br b11 (
j17 skipV h13) (
asI .i64 v12 fun x18 =>
fB (ltI (Int.ofNat 0) x18) fun b19 =>
j17 (AV.bool b19) h13)) fun j14 =>
br b11 (
j14 skipV h4) (
j14 v2.2.2.2.1 h4)) (
leaveK (gam J []) d3 h4 fun h66 =>
k true h66)) (a0, a0, (AV.int .i64 (Int.ofNat x1)), (AV.int .i64 (Int.ofNat 0)), ()) [] h
noncomputable def s82 : AV → H → (Bool → H → Prop) → Prop := s82G J0 
noncomputable def w82 (c : AV → H → (Bool → H → Prop) → Prop) : Fun := fun xs h k => arg xs fun a0 xs => noArg xs <| c a0 h fun r0 h => k (.bool r0) h
theorem s82_eq (J : Joins) (a0 : AV) (h : H) (k : AV → H → Prop) : denF ty (gam J []) Try.f82 [a0] h k = s82G J  a0 h (fun r0 h => k (.bool r0) h) := by kernel_rfl
noncomputable def g82 : Fun := w82 s82
theorem g82_ok : FunOk Try.prog 82 g82 := (fun_ok ty_ok mixed (gam_ok (J := J0) (tab_nil fls_fun)) Try.func82 (fun args w => by simp)).imp fun xs h k e0 => by
  obtain ⟨a0, xs0, rfl, e1⟩ := arg_imp e0
  obtain ⟨rfl, e2⟩ := noArg_imp e1
  exact (s82_eq J0  a0 h k).mpr e2
/-- stagepost/record.Check -/
noncomputable def s71G (J : Joins) (c37 : AV → H → (Int → H → Prop) → Prop) (c46 : AV → H → (Int → Int → H → Prop) → Prop) (c82 : AV → H → (Bool → H → Prop) → Prop) (a0 : AV) (h : H) (k : Int → H → Prop) : Prop :=
Go.Am.asAgg a0 fun l3 =>
pushK (.cells false 45 l3) h fun n1 h2 =>
ldV (AV.ptr n1 6) h2 fun v4 =>
lenK v4 fun x5 =>
fB (ltI (Int.ofNat 24) (Int.ofNat x5)) fun b6 =>
br b6 (
k (Int.ofNat 3) h2) (
ldN 2 (AV.ptr n1 0) h2 fun l7 =>
c46 (AV.agg l7) h2 fun x9 x10 h8 =>
fB (eqI x10 (Int.ofNat 0)) fun b11 =>
J.jn (fun v12 h13 =>
J.jn (fun v15 h16 =>
J.jn (fun v19 h20 =>
pickB (AV.bool b11) v19 (AV.bool false) fun b24 =>
J.jn (fun v25 h26 =>
J.jn (fun v28 h29 =>
J.jn (fun v32 h33 =>
pickB (AV.bool b24) v32 (AV.bool false) fun b37 =>
J.jn (fun v38 h39 =>
J.jn (fun v41 h42 =>
J.jn (fun v45 h46 =>
J.jn (fun v50 h51 =>
pickB (AV.bool b37) v50 (AV.bool false) fun b55 =>
J.jd (α := AV × Unit) (fun v56 d57 h58 =>
asB v56.1 fun b60 =>
fB (Bool.not b60) fun b61 =>
br b61 (
leaveK (gam J [(37, w37 c37), (46, w46 c46), (82, w82 c82)]) d57 h58 fun h62 =>
k (Int.ofNat 2) h62) (
leaveK (gam J [(37, w37 c37), (46, w46 c46), (82, w82 c82)]) d57 h58 fun h63 =>
k (Int.ofNat 0) h63)) fun j59 =>
ldI .u8 (AV.ptr n1 2) h51 fun x64 =>
J.jd (α := AV × AV × AV × AV × AV × Unit) (fun v65 d66 h67 =>
asB v65.2.2.2.2.1 fun b69 =>
br b69 (
J.jn (fun v70 h71 =>
J.jn (fun v74 h75 =>
J.jn (fun v78 h79 =>
J.jn (fun v81 h82 =>
pickB v65.2.2.1 v81 (AV.bool false) fun b85 =>
J.jn (fun v86 h87 =>
J.jn (fun v90 h91 =>
J.jn (fun v94 h95 =>
J.jn (fun v98 h99 =>
pickB (AV.bool b85) v98 (AV.bool false) fun b103 =>
j59 ((AV.bool b103), ()) d66 h99) fun j100 =>
br b85 (
asI .i64 v94 fun x101 =>
fB (eqI x101 (Int.ofNat 0)) fun b102 =>
j100 (AV.bool b102) h95) (
j100 skipV h95)) fun j96 =>
br b85 (
lenK v90 fun x97 =>
j96 (AV.int .i64 (Int.ofNat x97)) h91) (
j96 skipV h91)) fun j92 =>
br b85 (
ldV v86 h87 fun v93 =>
j92 v93 h87) (
j92 skipV h87)) fun j88 =>
br b85 (
faK 6 v65.1 fun p89 =>
j88 p89 h82) (
j88 skipV h82)) fun j83 =>
asBU v65.2.2.1 (fun b104 =>
br b104 (
obK (aBin ty .eql 28 false v74 v78) fun b84 =>
j83 (AV.bool b84) h79) (
j83 skipV h79)) (
j83 skipV h79)) fun j80 =>
asBU v65.2.2.1 (fun b105 =>
br b105 (
j80 (AV.agg [(.int .i64 0), (.int .i32 0), (.int .i32 0)]) h75) (
j80 skipV h75)) (
j80 skipV h75)) fun j76 =>
asBU v65.2.2.1 (fun b106 =>
br b106 (
ldN 3 v70 h71 fun l77 =>
j76 (AV.agg l77) h71) (
j76 skipV h71)) (
j76 skipV h71)) fun j72 =>
asBU v65.2.2.1 (fun b107 =>
br b107 (
faK 3 v65.1 fun p73 =>
j72 p73 h67) (
j72 skipV h67)) (
j72 skipV h67)) (
J.jd (α := AV × AV × AV × AV × Unit) (fun v108 d109 h110 =>
asB v108.2.2.2.1 fun b112 =>
br b112 (
J.jn (fun v113 h114 =>
J.jn (fun v117 h118 =>
J.jn (fun v121 h122 =>
J.jn (fun v126 h127 =>
pickB v108.2.2.1 v126 (AV.bool false) fun b131 =>
J.jn (fun v132 h133 =>
J.jn (fun v136 h137 =>
J.jn (fun v140 h141 =>
J.jn (fun v144 h145 =>
J.jn (fun v147 h148 =>
pickB (AV.bool b131) v147 (AV.bool false) fun b153 =>
J.jn (fun v154 h155 =>
J.jn (fun v158 h159 =>
J.jn (fun v162 h163 =>
J.jn (fun v166 h167 =>
pickB (AV.bool b153) v166 (AV.bool false) fun b171 =>
J.jn (fun v172 h173 =>
J.jn (fun v176 h177 =>
J.jn (fun v180 h181 =>
pickB (AV.bool b171) v180 (AV.bool false) fun b185 =>
j59 ((AV.bool b185), ()) d109 h181) fun j182 =>
br b171 (
c82 v176 h177 fun b184 h183 =>
j182 (AV.bool b184) h183) (
j182 skipV h177)) fun j178 =>
br b171 (
ldV v172 h173 fun v179 =>
j178 v179 h173) (
j178 skipV h173)) fun j174 =>
br b171 (
faK 6 v108.1 fun p175 =>
j174 p175 h167) (
j174 skipV h167)) fun j168 =>
br b153 (
asI .i64 v162 fun x169 =>
fB (ltI (Int.ofNat 0) x169) fun b170 =>
j168 (AV.bool b170) h163) (
j168 skipV h163)) fun j164 =>
br b153 (
lenK v158 fun x165 =>
j164 (AV.int .i64 (Int.ofNat x165)) h159) (
j164 skipV h159)) fun j160 =>
br b153 (
ldV v154 h155 fun v161 =>
j160 v161 h155) (
j160 skipV h155)) fun j156 =>
br b153 (
faK 6 v108.1 fun p157 =>
j156 p157 h148) (
j156 skipV h148)) fun j149 =>
br b131 (
asI .i32 v140 fun x150 =>
asI .i32 v144 fun x151 =>
fB (eqI x150 x151) fun b152 =>
j149 (AV.bool b152) h145) (
j149 skipV h145)) fun j146 =>
br b131 (
j146 v108.2.1 h141) (
j146 skipV h141)) fun j142 =>
br b131 (
ldI .i32 v136 h137 fun x143 =>
j142 (AV.int .i32 x143) h137) (
j142 skipV h137)) fun j138 =>
br b131 (
faK 2 v132 fun p139 =>
j138 p139 h133) (
j138 skipV h133)) fun j134 =>
br b131 (
faK 3 v108.1 fun p135 =>
j134 p135 h127) (
j134 skipV h127)) fun j128 =>
asBU v108.2.2.1 (fun b186 =>
br b186 (
asI .i64 v121 fun x129 =>
fB (eqI x129 (Int.ofNat 0)) fun b130 =>
j128 (AV.bool b130) h122) (
j128 skipV h122)) (
j128 skipV h122)) fun j123 =>
asBU v108.2.2.1 (fun b187 =>
br b187 (
c37 v117 h118 fun x125 h124 =>
j123 (AV.int .i64 x125) h124) (
j123 skipV h118)) (
j123 skipV h118)) fun j119 =>
asBU v108.2.2.1 (fun b188 =>
br b188 (
ldN 3 v113 h114 fun l120 =>
j119 (AV.agg l120) h114) (
j119 skipV h114)) (
j119 skipV h114)) fun j115 =>
asBU v108.2.2.1 (fun b189 =>
br b189 (
faK 3 v108.1 fun p116 =>
j115 p116 h110) (
j115 skipV h110)) (
j115 skipV h110)) (
j59 ((AV.bool false), ()) d109 h110)) fun j111 =>
asI .u8 v65.2.2.2.1 fun x190 =>
fB (eqI x190 (Int.ofNat 2)) fun b191 =>
br b191 (
j111 (v65.1, v65.2.1, v65.2.2.1, (AV.bool b191), ()) d66 h67) (
asI .u8 v65.2.2.2.1 fun x192 =>
fB (eqI x192 (Int.ofNat 3)) fun b193 =>
j111 (v65.1, v65.2.1, v65.2.2.1, (AV.bool b193), ()) d66 h67))) fun j68 =>
fB (eqI x64 (Int.ofNat 1)) fun b194 =>
br b194 (
j68 ((AV.ptr n1 0), (AV.int .i32 x9), (AV.bool b55), (AV.int .u8 x64), (AV.bool b194), ()) [] h51) (
fB (eqI x64 (Int.ofNat 4)) fun b195 =>
j68 ((AV.ptr n1 0), (AV.int .i32 x9), (AV.bool b55), (AV.int .u8 x64), (AV.bool b195), ()) [] h51)) fun j52 =>
br b37 (
asI .i64 v45 fun x53 =>
fB (eqI x53 (Int.ofNat 0)) fun b54 =>
j52 (AV.bool b54) h46) (
j52 skipV h46)) fun j47 =>
br b37 (
c37 v41 h42 fun x49 h48 =>
j47 (AV.int .i64 x49) h48) (
j47 skipV h42)) fun j43 =>
br b37 (
ldN 3 v38 h39 fun l44 =>
j43 (AV.agg l44) h39) (
j43 skipV h39)) fun j40 =>
br b37 (
j40 (AV.ptr n1 8) h33) (
j40 skipV h33)) fun j34 =>
br b24 (
asI .i64 v28 fun x35 =>
fB (Bool.not (ltI (Int.ofNat 1099511627776) x35)) fun b36 =>
j34 (AV.bool b36) h29) (
j34 skipV h29)) fun j30 =>
br b24 (
ldI .i64 v25 h26 fun x31 =>
j30 (AV.int .i64 x31) h26) (
j30 skipV h26)) fun j27 =>
br b24 (
j27 (AV.ptr n1 7) h20) (
j27 skipV h20)) fun j21 =>
br b11 (
asI .i64 v15 fun x22 =>
fB (Bool.not (ltI x22 (Int.ofNat 0))) fun b23 =>
j21 (AV.bool b23) h16) (
j21 skipV h16)) fun j17 =>
br b11 (
ldI .i64 v12 h13 fun x18 =>
j17 (AV.int .i64 x18) h13) (
j17 skipV h13)) fun j14 =>
br b11 (
j14 (AV.ptr n1 7) h8) (
j14 skipV h8))
noncomputable def s71 : AV → H → (Int → H → Prop) → Prop := s71G J0 s37 s46 s82
noncomputable def w71 (c : AV → H → (Int → H → Prop) → Prop) : Fun := fun xs h k => arg xs fun a0 xs => noArg xs <| c a0 h fun r0 h => k (.int .i64 r0) h
theorem s71_eq (J : Joins) (c37 : AV → H → (Int → H → Prop) → Prop) (c46 : AV → H → (Int → Int → H → Prop) → Prop) (c82 : AV → H → (Bool → H → Prop) → Prop) (a0 : AV) (h : H) (k : AV → H → Prop) : denF ty (gam J [(37, w37 c37), (46, w46 c46), (82, w82 c82)]) Try.f71 [a0] h k = s71G J c37 c46 c82 a0 h (fun r0 h => k (.int .i64 r0) h) := by kernel_rfl
noncomputable def g71 : Fun := w71 s71
theorem g71_ok : FunOk Try.prog 71 g71 := (fun_ok ty_ok mixed (gam_ok (J := J0) (tab_cons g37_ok (tab_cons g46_ok (tab_cons g82_ok (tab_nil fls_fun))))) Try.func71 (fun args w => by simp)).imp fun xs h k e0 => by
  obtain ⟨a0, xs0, rfl, e1⟩ := arg_imp e0
  obtain ⟨rfl, e2⟩ := noArg_imp e1
  exact (s71_eq J0 s37 s46 s82 a0 h k).mpr e2
/-- stagepost/mvcc.known -/
noncomputable def s48G (J : Joins) (c35 : Str → H → (Bool → H → Prop) → Prop) (c71 : AV → H → (Int → H → Prop) → Prop) (a0 : AV) (h : H) (k : Int → H → Prop) : Prop :=
Go.Am.asAgg a0 fun l3 =>
pushK (.cells false 45 l3) h fun n1 h2 =>
ldN 11 (AV.ptr n1 0) h2 fun l4 =>
c71 (AV.agg l4) h2 fun x6 h5 =>
fB (Bool.not (eqI x6 (Int.ofNat 0))) fun b7 =>
br b7 (
k x6 h5) (
ldV (AV.ptr n1 6) h5 fun v8 =>
lenK v8 fun x9 =>
J.lp (α := AV × AV × AV × Unit) (fun r13 v10 d11 h12 =>
asI .i64 v10.2.2.1 fun x14 =>
asI .i64 v10.2.1 fun x15 =>
fB (ltI x14 x15) fun b16 =>
br b16 (
ixK 1 v10.1 v10.2.2.1 fun p17 =>
ldS p17 h12 fun s18 =>
c35 s18 h12 fun b20 h19 =>
fB (Bool.not b20) fun b21 =>
br b21 (
leaveK (gam J [(35, w35 c35), (71, w71 c71)]) d11 h19 fun h22 =>
k (Int.ofNat 2) h22) (
asI .i64 v10.2.2.1 fun x23 =>
fI (wrapF .i64 (Int.add x23 (Int.ofNat 1))) fun x24 =>
r13 (v10.1, v10.2.1, (AV.int .i64 x24), ()) d11 h19)) (
leaveK (gam J [(35, w35 c35), (71, w71 c71)]) d11 h12 fun h25 =>
k (Int.ofNat 0) h25)) (v8, (AV.int .i64 (Int.ofNat x9)), (AV.int .i64 (Int.ofNat 0)), ()) [] h5)
noncomputable def s48 : AV → H → (Int → H → Prop) → Prop := s48G J0 s35 s71
noncomputable def w48 (c : AV → H → (Int → H → Prop) → Prop) : Fun := fun xs h k => arg xs fun a0 xs => noArg xs <| c a0 h fun r0 h => k (.int .i64 r0) h
theorem s48_eq (J : Joins) (c35 : Str → H → (Bool → H → Prop) → Prop) (c71 : AV → H → (Int → H → Prop) → Prop) (a0 : AV) (h : H) (k : AV → H → Prop) : denF ty (gam J [(35, w35 c35), (71, w71 c71)]) Try.f48 [a0] h k = s48G J c35 c71 a0 h (fun r0 h => k (.int .i64 r0) h) := by kernel_rfl
noncomputable def g48 : Fun := w48 s48
theorem g48_ok : FunOk Try.prog 48 g48 := (fun_ok ty_ok mixed (gam_ok (J := J0) (tab_cons g35_ok (tab_cons g71_ok (tab_nil fls_fun)))) Try.func48 (fun args w => by simp)).imp fun xs h k e0 => by
  obtain ⟨a0, xs0, rfl, e1⟩ := arg_imp e0
  obtain ⟨rfl, e2⟩ := noArg_imp e1
  exact (s48_eq J0 s35 s71 a0 h k).mpr e2
/-- (*strings.Builder).WriteString -/
noncomputable def s49G (J : Joins) (c72 : AV → H → (H → Prop) → Prop) (a0 : AV) (a1 : Str) (h : H) (k : Int → AV → H → Prop) : Prop :=
c72 a0 h fun  h1 =>
okNil a0 (
faK 1 a0 fun p2 =>
ldV p2 h1 fun v3 =>
apB .str 5 v3 (AV.str a1) h1 fun v4 h5 =>
okNil a0 (
faK 1 a0 fun p6 =>
stV p6 v4 h5 fun h7 =>
k (Int.ofNat a1.len) AV.nili h7))
noncomputable def s49 : AV → Str → H → (Int → AV → H → Prop) → Prop := s49G J0 s72
noncomputable def w49 (c : AV → Str → H → (Int → AV → H → Prop) → Prop) : Fun := fun xs h k => arg xs fun a0 xs => arg xs fun a1 xs => noArg xs <| asS a1 fun a1 => c a0 a1 h fun r0 r1 h => k (.tuple [(.int .i64 r0), r1]) h
theorem s49_eq (J : Joins) (c72 : AV → H → (H → Prop) → Prop) (a0 : AV) (a1 : Str) (h : H) (k : AV → H → Prop) : denF ty (gam J [(72, w72 c72)]) Try.f49 [a0, (.str a1)] h k = s49G J c72 a0 a1 h (fun r0 r1 h => k (.tuple [(.int .i64 r0), r1]) h) := by kernel_rfl
noncomputable def g49 : Fun := w49 s49
theorem g49_ok : FunOk Try.prog 49 g49 := (fun_ok ty_ok mixed (gam_ok (J := J0) (tab_cons g72_ok (tab_nil fls_fun))) Try.func49 (fun args w => by simp)).imp fun xs h k e0 => by
  obtain ⟨a0, xs0, rfl, e1⟩ := arg_imp e0
  obtain ⟨a1, xs1, rfl, e2⟩ := arg_imp e1
  obtain ⟨rfl, e3⟩ := noArg_imp e2
  obtain ⟨a1, rfl, e4⟩ := asS_iff.1 e3
  exact (s49_eq J0 s72 a0 a1 h k).mpr e4
/-- stagepost/mvcc.ends -/
noncomputable def s50G (J : Joins) (a0 : Int) (h : H) (k : Bool → H → Prop) : Prop :=
fB (eqI a0 (Int.ofNat 2)) fun b1 =>
J.jn (fun v2 h3 =>
J.jn (fun v5 h6 =>
pickB (AV.bool b1) (AV.bool true) v5 fun b10 =>
k b10 h6) fun j7 =>
br b1 (
j7 skipV h3) (
asI .u8 v2 fun x8 =>
fB (eqI x8 (Int.ofNat 3)) fun b9 =>
j7 (AV.bool b9) h3)) fun j4 =>
br b1 (
j4 skipV h) (
j4 (AV.int .u8 a0) h)
noncomputable def s50 : Int → H → (Bool → H → Prop) → Prop := s50G J0 
noncomputable def w50 (c : Int → H → (Bool → H → Prop) → Prop) : Fun := fun xs h k => arg xs fun a0 xs => noArg xs <| asI .u8 a0 fun a0 => c a0 h fun r0 h => k (.bool r0) h
theorem s50_eq (J : Joins) (a0 : Int) (h : H) (k : AV → H → Prop) : denF ty (gam J []) Try.f50 [(.int .u8 a0)] h k = s50G J  a0 h (fun r0 h => k (.bool r0) h) := by kernel_rfl
noncomputable def g50 : Fun := w50 s50
theorem g50_ok : FunOk Try.prog 50 g50 := (fun_ok ty_ok mixed (gam_ok (J := J0) (tab_nil fls_fun)) Try.func50 (fun args w => by simp)).imp fun xs h k e0 => by
  obtain ⟨a0, xs0, rfl, e1⟩ := arg_imp e0
  obtain ⟨rfl, e2⟩ := noArg_imp e1
  obtain ⟨a0, rfl, e3⟩ := asI_iff.1 e2
  exact (s50_eq J0  a0 h k).mpr e3
/-- stagepost/mvcc.four -/
noncomputable def s73G (J : Joins) (a0 : Int) (h : H) (k : Str → H → Prop) : Prop :=
fI (shrF a0 (nmin 24 (IntKind.bits .i32))) fun x1 =>
fI (wrapF .u8 x1) fun x2 =>
fI (shrF a0 (nmin 16 (IntKind.bits .i32))) fun x3 =>
fI (wrapF .u8 x3) fun x4 =>
fI (shrF a0 (nmin 8 (IntKind.bits .i32))) fun x5 =>
fI (wrapF .u8 x5) fun x6 =>
fI (wrapF .u8 a0) fun x7 =>
op' (asRow true 5 [(AV.int .u8 x2), (AV.int .u8 x4), (AV.int .u8 x6), (AV.int .u8 x7)]) fun k10 =>
pushK k10 h fun n8 h9 =>
toStrK (AV.slice n8 0 4 4 1 true) h9 fun s11 =>
k s11 h9
noncomputable def s73 : Int → H → (Str → H → Prop) → Prop := s73G J0 
noncomputable def w73 (c : Int → H → (Str → H → Prop) → Prop) : Fun := fun xs h k => arg xs fun a0 xs => noArg xs <| asI .i32 a0 fun a0 => c a0 h fun r0 h => k (.str r0) h
theorem s73_eq (J : Joins) (a0 : Int) (h : H) (k : AV → H → Prop) : denF ty (gam J []) Try.f73 [(.int .i32 a0)] h k = s73G J  a0 h (fun r0 h => k (.str r0) h) := by kernel_rfl
noncomputable def g73 : Fun := w73 s73
theorem g73_ok : FunOk Try.prog 73 g73 := (fun_ok ty_ok mixed (gam_ok (J := J0) (tab_nil fls_fun)) Try.func73 (fun args w => by simp)).imp fun xs h k e0 => by
  obtain ⟨a0, xs0, rfl, e1⟩ := arg_imp e0
  obtain ⟨rfl, e2⟩ := noArg_imp e1
  obtain ⟨a0, rfl, e3⟩ := asI_iff.1 e2
  exact (s73_eq J0  a0 h k).mpr e3
/-- stagepost/mvcc.place -/
noncomputable def s51G (J : Joins) (c73 : Int → H → (Str → H → Prop) → Prop) (a0 : AV) (h : H) (k : Str → H → Prop) : Prop :=
Go.Am.asAgg a0 fun l3 =>
pushK (.cells false 39 l3) h fun n1 h2 =>
ldI .i32 (AV.ptr n1 0) h2 fun x4 =>
ldI .i32 (AV.ptr n1 1) h2 fun x5 =>
c73 x4 h2 fun s7 h6 =>
ck (readsSo (aLoad1 (AV.ptr n1 1) h6) (AV.int .i32 x5)) (
ck (Nat.ble (Nat.add (⟨1, 114⟩ : Str).len s7.len) 9223372036854775807) (fS (Str.cat (⟨1, 114⟩ : Str) s7) fun s8 =>
c73 x5 h6 fun s10 h9 =>
ck (Nat.ble (Nat.add s8.len s10.len) 9223372036854775807) (fS (Str.cat s8 s10) fun s11 =>
k s11 h9)))
noncomputable def s51 : AV → H → (Str → H → Prop) → Prop := s51G J0 s73
noncomputable def w51 (c : AV → H → (Str → H → Prop) → Prop) : Fun := fun xs h k => arg xs fun a0 xs => noArg xs <| c a0 h fun r0 h => k (.str r0) h
theorem s51_eq (J : Joins) (c73 : Int → H → (Str → H → Prop) → Prop) (a0 : AV) (h : H) (k : AV → H → Prop) : denF ty (gam J [(73, w73 c73)]) Try.f51 [a0] h k = s51G J c73 a0 h (fun r0 h => k (.str r0) h) := by kernel_rfl
noncomputable def g51 : Fun := w51 s51
theorem g51_ok : FunOk Try.prog 51 g51 := (fun_ok ty_ok mixed (gam_ok (J := J0) (tab_cons g73_ok (tab_nil fls_fun))) Try.func51 (fun args w => by simp)).imp fun xs h k e0 => by
  obtain ⟨a0, xs0, rfl, e1⟩ := arg_imp e0
  obtain ⟨rfl, e2⟩ := noArg_imp e1
  exact (s51_eq J0 s73 a0 h k).mpr e2
/-- stagepost/mvcc.Keep -/
noncomputable def s18G (J : Joins) (c30 : AV → H → (Str → H → Prop) → Prop) (c41 : Int → H → (Str → H → Prop) → Prop) (c48 : AV → H → (Int → H → Prop) → Prop) (c49 : AV → Str → H → (Int → AV → H → Prop) → Prop) (c50 : Int → H → (Bool → H → Prop) → Prop) (c51 : AV → H → (Str → H → Prop) → Prop) (c52 : AV → H → (Str → H → Prop) → Prop) (a0 : AV) (h : H) (k : AV → Int → H → Prop) : Prop :=
Go.Am.asAgg a0 fun l3 =>
pushK (.cells false 45 l3) h fun n1 h2 =>
pushK (.cells false 23 [(.str ⟨0, 0⟩), (.str ⟨0, 0⟩), (.bool false)]) h2 fun n4 h5 =>
ldN 11 (AV.ptr n1 0) h5 fun l6 =>
c48 (AV.agg l6) h5 fun x8 h7 =>
fB (Bool.not (eqI x8 (Int.ofNat 0))) fun b9 =>
br b9 (
stN 3 (AV.ptr n4 0) [(.str ⟨0, 0⟩), (.str ⟨0, 0⟩), (.bool false)] h7 fun h10 =>
ldN 3 (AV.ptr n4 0) h10 fun l11 =>
k (AV.agg l11) x8 h10) (
pushK (.cells false 81 [(.nilp), (.nils)]) h7 fun n12 h13 =>
ldI .u8 (AV.ptr n1 2) h13 fun x14 =>
fI (wrapF .i64 x14) fun x15 =>
ldI .i64 (AV.ptr n1 7) h13 fun x16 =>
ldN 3 (AV.ptr n1 8) h13 fun l17 =>
c41 x15 h13 fun s19 h18 =>
ck (readsSo (aLoadN 3 (AV.ptr n1 8) h18) (AV.agg l17)) (
ck (readsSo (aLoad1 (AV.ptr n1 7) h18) (AV.int .i64 x16)) (
c41 x16 h18 fun s21 h20 =>
ck (readsSo (aLoadN 3 (AV.ptr n1 8) h20) (AV.agg l17)) (
ck (Nat.ble (Nat.add s19.len s21.len) 9223372036854775807) (fS (Str.cat s19 s21) fun s22 =>
c30 (AV.agg l17) h20 fun s24 h23 =>
ck (Nat.ble (Nat.add s22.len s24.len) 9223372036854775807) (fS (Str.cat s22 s24) fun s25 =>
c49 (AV.ptr n12 0) s25 h23 fun x27 v28 h26 =>
J.jd (α := AV × AV × AV × Unit) (fun v29 d30 h31 =>
faK 0 v29.1 fun p33 =>
ldN 2 p33 h31 fun l34 =>
c51 (AV.agg l34) h31 fun s36 h35 =>
c52 v29.2.2.1 h35 fun s38 h37 =>
stN 3 v29.2.1 [(AV.str s36), (AV.str s38), (.bool false)] h37 fun h39 =>
leaveK (gam J [(30, w30 c30), (41, w41 c41), (48, w48 c48), (49, w49 c49), (50, w50 c50), (51, w51 c51), (52, w52 c52)]) d30 h39 fun h40 =>
ldN 3 v29.2.1 h40 fun l41 =>
k (AV.agg l41) (Int.ofNat 0) h40) fun j32 =>
ldI .u8 (AV.ptr n1 2) h26 fun x42 =>
c50 x42 h26 fun b44 h43 =>
br b44 (
ldN 3 (AV.ptr n1 3) h43 fun l45 =>
ldV (AV.ptr n1 6) h43 fun v46 =>
lenK v46 fun x47 =>
c30 (AV.agg l45) h43 fun s49 h48 =>
ck (readsSo (aLoad1 (AV.ptr n1 6) h48) v46) (
c41 (Int.ofNat x47) h48 fun s51 h50 =>
ck (Nat.ble (Nat.add s49.len s51.len) 9223372036854775807) (fS (Str.cat s49 s51) fun s52 =>
c49 (AV.ptr n12 0) s52 h50 fun x54 v55 h53 =>
ldV (AV.ptr n1 6) h53 fun v56 =>
lenK v56 fun x57 =>
J.lp (α := AV × AV × AV × AV × AV × AV × Unit) (fun r61 v58 d59 h60 =>
asI .i64 v58.2.2.2.2.2.1 fun x62 =>
asI .i64 v58.2.2.2.2.1 fun x63 =>
fB (ltI x62 x63) fun b64 =>
br b64 (
ixK 1 v58.2.2.2.1 v58.2.2.2.2.2.1 fun p65 =>
ldS p65 h60 fun s66 =>
c41 (Int.ofNat s66.len) h60 fun s68 h67 =>
ck (Nat.ble (Nat.add s68.len s66.len) 9223372036854775807) (fS (Str.cat s68 s66) fun s69 =>
c49 v58.2.2.1 s69 h67 fun x71 v72 h70 =>
asI .i64 v58.2.2.2.2.2.1 fun x73 =>
fI (wrapF .i64 (Int.add x73 (Int.ofNat 1))) fun x74 =>
r61 (v58.1, v58.2.1, v58.2.2.1, v58.2.2.2.1, v58.2.2.2.2.1, (AV.int .i64 x74), ()) d59 h70)) (
j32 (v58.1, v58.2.1, v58.2.2.1, ()) d59 h60)) ((AV.ptr n1 0), (AV.ptr n4 0), (AV.ptr n12 0), v56, (AV.int .i64 (Int.ofNat x57)), (AV.int .i64 (Int.ofNat 0)), ()) [] h53))) (
j32 ((AV.ptr n1 0), (AV.ptr n4 0), (AV.ptr n12 0), ()) [] h43)))))))
noncomputable def s18 : AV → H → (AV → Int → H → Prop) → Prop := s18G J0 s30 s41 s48 s49 s50 s51 s52
noncomputable def w18 (c : AV → H → (AV → Int → H → Prop) → Prop) : Fun := fun xs h k => arg xs fun a0 xs => noArg xs <| c a0 h fun r0 r1 h => k (.tuple [r0, (.int .i64 r1)]) h
theorem s18_eq (J : Joins) (c30 : AV → H → (Str → H → Prop) → Prop) (c41 : Int → H → (Str → H → Prop) → Prop) (c48 : AV → H → (Int → H → Prop) → Prop) (c49 : AV → Str → H → (Int → AV → H → Prop) → Prop) (c50 : Int → H → (Bool → H → Prop) → Prop) (c51 : AV → H → (Str → H → Prop) → Prop) (c52 : AV → H → (Str → H → Prop) → Prop) (a0 : AV) (h : H) (k : AV → H → Prop) : denF ty (gam J [(30, w30 c30), (41, w41 c41), (48, w48 c48), (49, w49 c49), (50, w50 c50), (51, w51 c51), (52, w52 c52)]) Try.f18 [a0] h k = s18G J c30 c41 c48 c49 c50 c51 c52 a0 h (fun r0 r1 h => k (.tuple [r0, (.int .i64 r1)]) h) := by kernel_rfl
noncomputable def g18 : Fun := w18 s18
theorem g18_ok : FunOk Try.prog 18 g18 := (fun_ok ty_ok mixed (gam_ok (J := J0) (tab_cons g30_ok (tab_cons g41_ok (tab_cons g48_ok (tab_cons g49_ok (tab_cons g50_ok (tab_cons g51_ok (tab_cons g52_ok (tab_nil fls_fun))))))))) Try.func18 (fun args w => by simp)).imp fun xs h k e0 => by
  obtain ⟨a0, xs0, rfl, e1⟩ := arg_imp e0
  obtain ⟨rfl, e2⟩ := noArg_imp e1
  exact (s18_eq J0 s30 s41 s48 s49 s50 s51 s52 a0 h k).mpr e2
/-- stagepost/stagepostref22.fine -/
noncomputable def s84G (J : Joins) (a0 : AV) (h : H) (k : Bool → H → Prop) : Prop :=
J.lp (α := AV × AV × Unit) (fun r4 v1 d2 h3 =>
lenK v1.1 fun x5 =>
asI .i64 v1.2.1 fun x6 =>
fB (ltI x6 (Int.ofNat x5)) fun b7 =>
br b7 (
ixK 1 v1.1 v1.2.1 fun p8 =>
ldS p8 h3 fun s9 =>
fB (Str.beq s9 (⟨0, 0⟩ : Str)) fun b10 =>
J.jn (fun v11 h12 =>
J.jn (fun v14 h15 =>
J.jn (fun v19 h20 =>
J.jn (fun v22 h23 =>
J.jn (fun v25 h26 =>
J.jn (fun v28 h29 =>
J.jb (fun b32 v33 =>
J.jn (fun v36 h37 =>
J.jn (fun v39 h40 =>
J.jn (fun v42 h43 =>
J.jn (fun v47 h48 =>
J.jb (fun b51 v52 =>
J.jn (fun v55 h56 =>
J.jn (fun v61 h62 =>
pickB (AV.bool b10) (AV.bool true) v61 fun b65 =>
br b65 (
leaveK (gam J []) d2 h62 fun h66 =>
k false h66) (
asI .i64 v1.2.1 fun x67 =>
fI (wrapF .i64 (Int.add x67 (Int.ofNat 1))) fun x68 =>
r4 (v1.1, (AV.int .i64 x68), ()) d2 h62)) fun j63 =>
br b10 (
j63 skipV h56) (
pickB v19 v55 (AV.bool false) fun b64 =>
j63 (AV.bool b64) h56)) fun j57 =>
asBU v19 (fun b69 =>
br b69 (
asS v33 fun s58 =>
asS v52 fun s59 =>
fB (Bool.not (Str.lt s59 s58)) fun b60 =>
j57 (AV.bool b60) h48) (
j57 skipV h48)) (
j57 skipV h48)) fun j53 =>
asBU v19 (fun b70 =>
br b70 (
ldS v47 h48 fun s54 =>
j53 true (AV.str s54)) (
j53 false skipV)) (
j53 false skipV)) fun j49 =>
asBU v19 (fun b71 =>
br b71 (
ixK 1 v36 v42 fun p50 =>
j49 p50 h43) (
j49 skipV h43)) (
j49 skipV h43)) fun j44 =>
asBU v19 (fun b72 =>
br b72 (
asI .i64 v39 fun x45 =>
fI (wrapF .i64 (Int.sub x45 (Int.ofNat 1))) fun x46 =>
j44 (AV.int .i64 x46) h40) (
j44 skipV h40)) (
j44 skipV h40)) fun j41 =>
asBU v19 (fun b73 =>
br b73 (
j41 v1.2.1 h37) (
j41 skipV h37)) (
j41 skipV h37)) fun j38 =>
asBU v19 (fun b74 =>
br b74 (
j38 v1.1 h29) (
j38 skipV h29)) (
j38 skipV h29)) fun j34 =>
asBU v19 (fun b75 =>
br b75 (
ldS v28 h29 fun s35 =>
j34 true (AV.str s35)) (
j34 false skipV)) (
j34 false skipV)) fun j30 =>
asBU v19 (fun b76 =>
br b76 (
ixK 1 v22 v25 fun p31 =>
j30 p31 h26) (
j30 skipV h26)) (
j30 skipV h26)) fun j27 =>
asBU v19 (fun b77 =>
br b77 (
j27 v1.2.1 h23) (
j27 skipV h23)) (
j27 skipV h23)) fun j24 =>
asBU v19 (fun b78 =>
br b78 (
j24 v1.1 h20) (
j24 skipV h20)) (
j24 skipV h20)) fun j21 =>
br b10 (
j21 skipV h15) (
j21 v14 h15)) fun j16 =>
br b10 (
j16 skipV h12) (
asI .i64 v11 fun x17 =>
fB (ltI (Int.ofNat 0) x17) fun b18 =>
j16 (AV.bool b18) h12)) fun j13 =>
br b10 (
j13 skipV h3) (
j13 v1.2.1 h3)) (
lenK v1.1 fun x79 =>
fB (ltI (Int.ofNat 0) (Int.ofNat x79)) fun b80 =>
leaveK (gam J []) d2 h3 fun h81 =>
k b80 h81)) (a0, (AV.int .i64 (Int.ofNat 0)), ()) [] h
noncomputable def s84 : AV → H → (Bool → H → Prop) → Prop := s84G J0 
noncomputable def w84 (c : AV → H → (Bool → H → Prop) → Prop) : Fun := fun xs h k => arg xs fun a0 xs => noArg xs <| c a0 h fun r0 h => k (.bool r0) h
theorem s84_eq (J : Joins) (a0 : AV) (h : H) (k : AV → H → Prop) : denF ty (gam J []) Try.f84 [a0] h k = s84G J  a0 h (fun r0 h => k (.bool r0) h) := by kernel_rfl
noncomputable def g84 : Fun := w84 s84
theorem g84_ok : FunOk Try.prog 84 g84 := (fun_ok ty_ok mixed (gam_ok (J := J0) (tab_nil fls_fun)) Try.func84 (fun args w => by simp)).imp fun xs h k e0 => by
  obtain ⟨a0, xs0, rfl, e1⟩ := arg_imp e0
  obtain ⟨rfl, e2⟩ := noArg_imp e1
  exact (s84_eq J0  a0 h k).mpr e2
/-- stagepost/stagepostref22.Check -/
noncomputable def s74G (J : Joins) (c45 : AV → H → (Int → H → Prop) → Prop) (c47 : AV → H → (Int → Int → H → Prop) → Prop) (c84 : AV → H → (Bool → H → Prop) → Prop) (a0 : AV) (h : H) (k : Int → H → Prop) : Prop :=
Go.Am.asAgg a0 fun l3 =>
pushK (.cells false 45 l3) h fun n1 h2 =>
ldV (AV.ptr n1 6) h2 fun v4 =>
lenK v4 fun x5 =>
fB (ltI (Int.ofNat 24) (Int.ofNat x5)) fun b6 =>
br b6 (
k (Int.ofNat 3) h2) (
ldN 2 (AV.ptr n1 0) h2 fun l7 =>
c47 (AV.agg l7) h2 fun x9 x10 h8 =>
fB (Bool.not (eqI x10 (Int.ofNat 0))) fun b11 =>
J.jn (fun v12 h13 =>
J.jn (fun v15 h16 =>
J.jn (fun v19 h20 =>
pickB (AV.bool b11) (AV.bool true) v19 fun b24 =>
J.jn (fun v25 h26 =>
J.jn (fun v28 h29 =>
J.jn (fun v32 h33 =>
pickB (AV.bool b24) (AV.bool true) v32 fun b37 =>
J.jn (fun v38 h39 =>
J.jn (fun v41 h42 =>
J.jn (fun v45 h46 =>
J.jn (fun v50 h51 =>
pickB (AV.bool b37) (AV.bool true) v50 fun b55 =>
br b55 (
k (Int.ofNat 2) h51) (
J.jd (α := Unit) (fun v56 d57 h58 =>
leaveK (gam J [(45, w45 c45), (47, w47 c47), (84, w84 c84)]) d57 h58 fun h60 =>
k (Int.ofNat 0) h60) fun j59 =>
ldI .u8 (AV.ptr n1 2) h51 fun x61 =>
J.jd (α := AV × AV × AV × AV × Unit) (fun v62 d63 h64 =>
asB v62.2.2.2.1 fun b66 =>
br b66 (
faK 3 v62.1 fun p67 =>
ldN 3 p67 h64 fun l68 =>
obK (aBin ty .neq 28 false (AV.agg l68) (AV.agg [(.int .i64 0), (.int .i32 0), (.int .i32 0)])) fun b69 =>
J.jn (fun v70 h71 =>
J.jn (fun v74 h75 =>
J.jn (fun v78 h79 =>
J.jn (fun v82 h83 =>
pickB (AV.bool b69) (AV.bool true) v82 fun b87 =>
br b87 (
leaveK (gam J [(45, w45 c45), (47, w47 c47), (84, w84 c84)]) d63 h83 fun h88 =>
k (Int.ofNat 2) h88) (
j59 (()) d63 h83)) fun j84 =>
br b69 (
j84 skipV h79) (
asI .i64 v78 fun x85 =>
fB (Bool.not (eqI x85 (Int.ofNat 0))) fun b86 =>
j84 (AV.bool b86) h79)) fun j80 =>
br b69 (
j80 skipV h75) (
lenK v74 fun x81 =>
j80 (AV.int .i64 (Int.ofNat x81)) h75)) fun j76 =>
br b69 (
j76 skipV h71) (
ldV v70 h71 fun v77 =>
j76 v77 h71)) fun j72 =>
br b69 (
j72 skipV h64) (
faK 6 v62.1 fun p73 =>
j72 p73 h64)) (
J.jd (α := AV × AV × AV × Unit) (fun v89 d90 h91 =>
asB v89.2.2.1 fun b93 =>
br b93 (
faK 3 v89.1 fun p94 =>
ldN 3 p94 h91 fun l95 =>
c45 (AV.agg l95) h91 fun x97 h96 =>
fB (Bool.not (eqI x97 (Int.ofNat 0))) fun b98 =>
J.jn (fun v99 h100 =>
J.jn (fun v103 h104 =>
J.jn (fun v107 h108 =>
J.jn (fun v111 h112 =>
J.jn (fun v114 h115 =>
pickB (AV.bool b98) (AV.bool true) v114 fun b120 =>
J.jn (fun v121 h122 =>
J.jn (fun v125 h126 =>
J.jn (fun v129 h130 =>
J.jn (fun v134 h135 =>
pickB (AV.bool b120) (AV.bool true) v134 fun b139 =>
br b139 (
leaveK (gam J [(45, w45 c45), (47, w47 c47), (84, w84 c84)]) d90 h135 fun h140 =>
k (Int.ofNat 2) h140) (
j59 (()) d90 h135)) fun j136 =>
br b120 (
j136 skipV h130) (
asB v129 fun b137 =>
fB (Bool.not b137) fun b138 =>
j136 (AV.bool b138) h130)) fun j131 =>
br b120 (
j131 skipV h126) (
c84 v125 h126 fun b133 h132 =>
j131 (AV.bool b133) h132)) fun j127 =>
br b120 (
j127 skipV h122) (
ldV v121 h122 fun v128 =>
j127 v128 h122)) fun j123 =>
br b120 (
j123 skipV h115) (
faK 6 v89.1 fun p124 =>
j123 p124 h115)) fun j116 =>
br b98 (
j116 skipV h112) (
asI .i32 v107 fun x117 =>
asI .i32 v111 fun x118 =>
fB (Bool.not (eqI x117 x118)) fun b119 =>
j116 (AV.bool b119) h112)) fun j113 =>
br b98 (
j113 skipV h108) (
j113 v89.2.1 h108)) fun j109 =>
br b98 (
j109 skipV h104) (
ldI .i32 v103 h104 fun x110 =>
j109 (AV.int .i32 x110) h104)) fun j105 =>
br b98 (
j105 skipV h100) (
faK 2 v99 fun p106 =>
j105 p106 h100)) fun j101 =>
br b98 (
j101 skipV h96) (
faK 3 v89.1 fun p102 =>
j101 p102 h96)) (
leaveK (gam J [(45, w45 c45), (47, w47 c47), (84, w84 c84)]) d90 h91 fun h141 =>
k (Int.ofNat 2) h141)) fun j92 =>
asI .u8 v62.2.2.1 fun x142 =>
fB (eqI x142 (Int.ofNat 2)) fun b143 =>
br b143 (
j92 (v62.1, v62.2.1, (AV.bool b143), ()) d63 h64) (
asI .u8 v62.2.2.1 fun x144 =>
fB (eqI x144 (Int.ofNat 3)) fun b145 =>
j92 (v62.1, v62.2.1, (AV.bool b145), ()) d63 h64))) fun j65 =>
fB (eqI x61 (Int.ofNat 1)) fun b146 =>
br b146 (
j65 ((AV.ptr n1 0), (AV.int .i32 x9), (AV.int .u8 x61), (AV.bool b146), ()) [] h51) (
fB (eqI x61 (Int.ofNat 4)) fun b147 =>
j65 ((AV.ptr n1 0), (AV.int .i32 x9), (AV.int .u8 x61), (AV.bool b147), ()) [] h51))) fun j52 =>
br b37 (
j52 skipV h46) (
asI .i64 v45 fun x53 =>
fB (Bool.not (eqI x53 (Int.ofNat 0))) fun b54 =>
j52 (AV.bool b54) h46)) fun j47 =>
br b37 (
j47 skipV h42) (
c45 v41 h42 fun x49 h48 =>
j47 (AV.int .i64 x49) h48)) fun j43 =>
br b37 (
j43 skipV h39) (
ldN 3 v38 h39 fun l44 =>
j43 (AV.agg l44) h39)) fun j40 =>
br b37 (
j40 skipV h33) (
j40 (AV.ptr n1 8) h33)) fun j34 =>
br b24 (
j34 skipV h29) (
asI .i64 v28 fun x35 =>
fB (ltI (Int.ofNat 1099511627776) x35) fun b36 =>
j34 (AV.bool b36) h29)) fun j30 =>
br b24 (
j30 skipV h26) (
ldI .i64 v25 h26 fun x31 =>
j30 (AV.int .i64 x31) h26)) fun j27 =>
br b24 (
j27 skipV h20) (
j27 (AV.ptr n1 7) h20)) fun j21 =>
br b11 (
j21 skipV h16) (
asI .i64 v15 fun x22 =>
fB (ltI x22 (Int.ofNat 0)) fun b23 =>
j21 (AV.bool b23) h16)) fun j17 =>
br b11 (
j17 skipV h13) (
ldI .i64 v12 h13 fun x18 =>
j17 (AV.int .i64 x18) h13)) fun j14 =>
br b11 (
j14 skipV h8) (
j14 (AV.ptr n1 7) h8))
noncomputable def s74 : AV → H → (Int → H → Prop) → Prop := s74G J0 s45 s47 s84
noncomputable def w74 (c : AV → H → (Int → H → Prop) → Prop) : Fun := fun xs h k => arg xs fun a0 xs => noArg xs <| c a0 h fun r0 h => k (.int .i64 r0) h
theorem s74_eq (J : Joins) (c45 : AV → H → (Int → H → Prop) → Prop) (c47 : AV → H → (Int → Int → H → Prop) → Prop) (c84 : AV → H → (Bool → H → Prop) → Prop) (a0 : AV) (h : H) (k : AV → H → Prop) : denF ty (gam J [(45, w45 c45), (47, w47 c47), (84, w84 c84)]) Try.f74 [a0] h k = s74G J c45 c47 c84 a0 h (fun r0 h => k (.int .i64 r0) h) := by kernel_rfl
noncomputable def g74 : Fun := w74 s74
theorem g74_ok : FunOk Try.prog 74 g74 := (fun_ok ty_ok mixed (gam_ok (J := J0) (tab_cons g45_ok (tab_cons g47_ok (tab_cons g84_ok (tab_nil fls_fun))))) Try.func74 (fun args w => by simp)).imp fun xs h k e0 => by
  obtain ⟨a0, xs0, rfl, e1⟩ := arg_imp e0
  obtain ⟨rfl, e2⟩ := noArg_imp e1
  exact (s74_eq J0 s45 s47 s84 a0 h k).mpr e2
/-- stagepost/stagepostref23.checkRecord -/
noncomputable def s53G (J : Joins) (c43 : Str → H → (Bool → H → Prop) → Prop) (c74 : AV → H → (Int → H → Prop) → Prop) (a0 : AV) (h : H) (k : Int → H → Prop) : Prop :=
Go.Am.asAgg a0 fun l3 =>
pushK (.cells false 45 l3) h fun n1 h2 =>
ldN 11 (AV.ptr n1 0) h2 fun l4 =>
c74 (AV.agg l4) h2 fun x6 h5 =>
fB (Bool.not (eqI x6 (Int.ofNat 0))) fun b7 =>
br b7 (
k x6 h5) (
J.lp (α := AV × AV × Unit) (fun r11 v8 d9 h10 =>
faK 6 v8.1 fun p12 =>
ldV p12 h10 fun v13 =>
lenK v13 fun x14 =>
asI .i64 v8.2.1 fun x15 =>
fB (ltI x15 (Int.ofNat x14)) fun b16 =>
br b16 (
faK 6 v8.1 fun p17 =>
ldV p17 h10 fun v18 =>
ixK 1 v18 v8.2.1 fun p19 =>
ldS p19 h10 fun s20 =>
c43 s20 h10 fun b22 h21 =>
fB (Bool.not b22) fun b23 =>
br b23 (
leaveK (gam J [(43, w43 c43), (74, w74 c74)]) d9 h21 fun h24 =>
k (Int.ofNat 2) h24) (
asI .i64 v8.2.1 fun x25 =>
fI (wrapF .i64 (Int.add x25 (Int.ofNat 1))) fun x26 =>
r11 (v8.1, (AV.int .i64 x26), ()) d9 h21)) (
leaveK (gam J [(43, w43 c43), (74, w74 c74)]) d9 h10 fun h27 =>
k (Int.ofNat 0) h27)) ((AV.ptr n1 0), (AV.int .i64 (Int.ofNat 0)), ()) [] h5)
noncomputable def s53 : AV → H → (Int → H → Prop) → Prop := s53G J0 s43 s74
noncomputable def w53 (c : AV → H → (Int → H → Prop) → Prop) : Fun := fun xs h k => arg xs fun a0 xs => noArg xs <| c a0 h fun r0 h => k (.int .i64 r0) h
theorem s53_eq (J : Joins) (c43 : Str → H → (Bool → H → Prop) → Prop) (c74 : AV → H → (Int → H → Prop) → Prop) (a0 : AV) (h : H) (k : AV → H → Prop) : denF ty (gam J [(43, w43 c43), (74, w74 c74)]) Try.f53 [a0] h k = s53G J c43 c74 a0 h (fun r0 h => k (.int .i64 r0) h) := by kernel_rfl
noncomputable def g53 : Fun := w53 s53
theorem g53_ok : FunOk Try.prog 53 g53 := (fun_ok ty_ok mixed (gam_ok (J := J0) (tab_cons g43_ok (tab_cons g74_ok (tab_nil fls_fun)))) Try.func53 (fun args w => by simp)).imp fun xs h k e0 => by
  obtain ⟨a0, xs0, rfl, e1⟩ := arg_imp e0
  obtain ⟨rfl, e2⟩ := noArg_imp e1
  exact (s53_eq J0 s43 s74 a0 h k).mpr e2
/-- stagepost/stagepostref23.four -/
noncomputable def s75G (J : Joins) (a0 : Int) (h : H) (k : Str → H → Prop) : Prop :=
fI (shrF a0 (nmin 24 (IntKind.bits .i32))) fun x1 =>
fI (wrapF .u8 x1) fun x2 =>
fI (shrF a0 (nmin 16 (IntKind.bits .i32))) fun x3 =>
fI (wrapF .u8 x3) fun x4 =>
fI (shrF a0 (nmin 8 (IntKind.bits .i32))) fun x5 =>
fI (wrapF .u8 x5) fun x6 =>
fI (wrapF .u8 a0) fun x7 =>
op' (asRow true 5 [(AV.int .u8 x2), (AV.int .u8 x4), (AV.int .u8 x6), (AV.int .u8 x7)]) fun k10 =>
pushK k10 h fun n8 h9 =>
toStrK (AV.slice n8 0 4 4 1 true) h9 fun s11 =>
k s11 h9
noncomputable def s75 : Int → H → (Str → H → Prop) → Prop := s75G J0 
noncomputable def w75 (c : Int → H → (Str → H → Prop) → Prop) : Fun := fun xs h k => arg xs fun a0 xs => noArg xs <| asI .i32 a0 fun a0 => c a0 h fun r0 h => k (.str r0) h
theorem s75_eq (J : Joins) (a0 : Int) (h : H) (k : AV → H → Prop) : denF ty (gam J []) Try.f75 [(.int .i32 a0)] h k = s75G J  a0 h (fun r0 h => k (.str r0) h) := by kernel_rfl
noncomputable def g75 : Fun := w75 s75
theorem g75_ok : FunOk Try.prog 75 g75 := (fun_ok ty_ok mixed (gam_ok (J := J0) (tab_nil fls_fun)) Try.func75 (fun args w => by simp)).imp fun xs h k e0 => by
  obtain ⟨a0, xs0, rfl, e1⟩ := arg_imp e0
  obtain ⟨rfl, e2⟩ := noArg_imp e1
  obtain ⟨a0, rfl, e3⟩ := asI_iff.1 e2
  exact (s75_eq J0  a0 h k).mpr e3
/-- stagepost/stagepostref23.place -/
noncomputable def s54G (J : Joins) (c75 : Int → H → (Str → H → Prop) → Prop) (a0 : AV) (h : H) (k : Str → H → Prop) : Prop :=
Go.Am.asAgg a0 fun l3 =>
pushK (.cells false 39 l3) h fun n1 h2 =>
ldI .i32 (AV.ptr n1 0) h2 fun x4 =>
ldI .i32 (AV.ptr n1 1) h2 fun x5 =>
c75 x4 h2 fun s7 h6 =>
ck (readsSo (aLoad1 (AV.ptr n1 1) h6) (AV.int .i32 x5)) (
ck (Nat.ble (Nat.add (⟨1, 114⟩ : Str).len s7.len) 9223372036854775807) (fS (Str.cat (⟨1, 114⟩ : Str) s7) fun s8 =>
c75 x5 h6 fun s10 h9 =>
ck (Nat.ble (Nat.add s8.len s10.len) 9223372036854775807) (fS (Str.cat s8 s10) fun s11 =>
k s11 h9)))
noncomputable def s54 : AV → H → (Str → H → Prop) → Prop := s54G J0 s75
noncomputable def w54 (c : AV → H → (Str → H → Prop) → Prop) : Fun := fun xs h k => arg xs fun a0 xs => noArg xs <| c a0 h fun r0 h => k (.str r0) h
theorem s54_eq (J : Joins) (c75 : Int → H → (Str → H → Prop) → Prop) (a0 : AV) (h : H) (k : AV → H → Prop) : denF ty (gam J [(75, w75 c75)]) Try.f54 [a0] h k = s54G J c75 a0 h (fun r0 h => k (.str r0) h) := by kernel_rfl
noncomputable def g54 : Fun := w54 s54
theorem g54_ok : FunOk Try.prog 54 g54 := (fun_ok ty_ok mixed (gam_ok (J := J0) (tab_cons g75_ok (tab_nil fls_fun))) Try.func54 (fun args w => by simp)).imp fun xs h k e0 => by
  obtain ⟨a0, xs0, rfl, e1⟩ := arg_imp e0
  obtain ⟨rfl, e2⟩ := noArg_imp e1
  exact (s54_eq J0 s75 a0 h k).mpr e2
/-- stagepost/stagepostref23.Keep -/
noncomputable def s19G (J : Joins) (c39 : AV → H → (Str → H → Prop) → Prop) (c42 : AV → Int → H → (AV → H → Prop) → Prop) (c53 : AV → H → (Int → H → Prop) → Prop) (c54 : AV → H → (Str → H → Prop) → Prop) (a0 : AV) (h : H) (k : AV → Int → H → Prop) : Prop :=
Go.Am.asAgg a0 fun l3 =>
pushK (.cells false 45 l3) h fun n1 h2 =>
pushK (.cells false 23 [(.str ⟨0, 0⟩), (.str ⟨0, 0⟩), (.bool false)]) h2 fun n4 h5 =>
ldN 11 (AV.ptr n1 0) h5 fun l6 =>
c53 (AV.agg l6) h5 fun x8 h7 =>
fB (Bool.not (eqI x8 (Int.ofNat 0))) fun b9 =>
br b9 (
stN 3 (AV.ptr n4 0) [(.str ⟨0, 0⟩), (.str ⟨0, 0⟩), (.bool false)] h7 fun h10 =>
ldN 3 (AV.ptr n4 0) h10 fun l11 =>
k (AV.agg l11) x8 h10) (
ldI .u8 (AV.ptr n1 2) h7 fun x12 =>
fI (wrapF .u64 x12) fun x13 =>
c42 AV.nils x13 h7 fun v15 h14 =>
ldI .i64 (AV.ptr n1 7) h14 fun x16 =>
fI (wrapF .u64 x16) fun x17 =>
c42 v15 x17 h14 fun v19 h18 =>
ldN 3 (AV.ptr n1 8) h18 fun l20 =>
c39 (AV.agg l20) h18 fun s22 h21 =>
apB .str 5 v19 (AV.str s22) h21 fun v23 h24 =>
J.jd (α := AV × AV × AV × Unit) (fun v25 d26 h27 =>
faK 0 v25.1 fun p29 =>
ldN 2 p29 h27 fun l30 =>
toStrK v25.2.2.1 h27 fun s31 =>
c54 (AV.agg l30) h27 fun s33 h32 =>
ck (readsSo (aToStr v25.2.2.1 h32) (AV.str s31)) (
stN 3 v25.2.1 [(AV.str s33), (AV.str s31), (.bool false)] h32 fun h34 =>
leaveK (gam J [(39, w39 c39), (42, w42 c42), (53, w53 c53), (54, w54 c54)]) d26 h34 fun h35 =>
ldN 3 v25.2.1 h35 fun l36 =>
k (AV.agg l36) (Int.ofNat 0) h35)) fun j28 =>
ldI .u8 (AV.ptr n1 2) h24 fun x37 =>
fB (eqI x37 (Int.ofNat 2)) fun b38 =>
J.jn (fun v39 h40 =>
J.jn (fun v42 h43 =>
J.jn (fun v46 h47 =>
pickB (AV.bool b38) (AV.bool true) v46 fun b51 =>
br b51 (
ldN 3 (AV.ptr n1 3) h47 fun l52 =>
c39 (AV.agg l52) h47 fun s54 h53 =>
apB .str 5 v23 (AV.str s54) h53 fun v55 h56 =>
ldV (AV.ptr n1 6) h56 fun v57 =>
lenK v57 fun x58 =>
fI (wrapF .u64 (Int.ofNat x58)) fun x59 =>
c42 v55 x59 h56 fun v61 h60 =>
J.lp (α := AV × AV × AV × AV × Unit) (fun r65 v62 d63 h64 =>
faK 6 v62.1 fun p66 =>
ldV p66 h64 fun v67 =>
lenK v67 fun x68 =>
asI .i64 v62.2.2.2.1 fun x69 =>
fB (ltI x69 (Int.ofNat x68)) fun b70 =>
br b70 (
faK 6 v62.1 fun p71 =>
ldV p71 h64 fun v72 =>
ixK 1 v72 v62.2.2.2.1 fun p73 =>
ldS p73 h64 fun s74 =>
fI (wrapF .u64 (Int.ofNat s74.len)) fun x75 =>
c42 v62.2.2.1 x75 h64 fun v77 h76 =>
faK 6 v62.1 fun p78 =>
ldV p78 h76 fun v79 =>
ixK 1 v79 v62.2.2.2.1 fun p80 =>
ldS p80 h76 fun s81 =>
apB .str 5 v77 (AV.str s81) h76 fun v82 h83 =>
asI .i64 v62.2.2.2.1 fun x84 =>
fI (wrapF .i64 (Int.add x84 (Int.ofNat 1))) fun x85 =>
r65 (v62.1, v62.2.1, v82, (AV.int .i64 x85), ()) d63 h83) (
j28 (v62.1, v62.2.1, v62.2.2.1, ()) d63 h64)) ((AV.ptr n1 0), (AV.ptr n4 0), v61, (AV.int .i64 (Int.ofNat 0)), ()) [] h60) (
j28 ((AV.ptr n1 0), (AV.ptr n4 0), v23, ()) [] h47)) fun j48 =>
br b38 (
j48 skipV h43) (
asI .u8 v42 fun x49 =>
fB (eqI x49 (Int.ofNat 3)) fun b50 =>
j48 (AV.bool b50) h43)) fun j44 =>
br b38 (
j44 skipV h40) (
ldI .u8 v39 h40 fun x45 =>
j44 (AV.int .u8 x45) h40)) fun j41 =>
br b38 (
j41 skipV h24) (
j41 (AV.ptr n1 2) h24))
noncomputable def s19 : AV → H → (AV → Int → H → Prop) → Prop := s19G J0 s39 s42 s53 s54
noncomputable def w19 (c : AV → H → (AV → Int → H → Prop) → Prop) : Fun := fun xs h k => arg xs fun a0 xs => noArg xs <| c a0 h fun r0 r1 h => k (.tuple [r0, (.int .i64 r1)]) h
theorem s19_eq (J : Joins) (c39 : AV → H → (Str → H → Prop) → Prop) (c42 : AV → Int → H → (AV → H → Prop) → Prop) (c53 : AV → H → (Int → H → Prop) → Prop) (c54 : AV → H → (Str → H → Prop) → Prop) (a0 : AV) (h : H) (k : AV → H → Prop) : denF ty (gam J [(39, w39 c39), (42, w42 c42), (53, w53 c53), (54, w54 c54)]) Try.f19 [a0] h k = s19G J c39 c42 c53 c54 a0 h (fun r0 r1 h => k (.tuple [r0, (.int .i64 r1)]) h) := by kernel_rfl
noncomputable def g19 : Fun := w19 s19
theorem g19_ok : FunOk Try.prog 19 g19 := (fun_ok ty_ok mixed (gam_ok (J := J0) (tab_cons g39_ok (tab_cons g42_ok (tab_cons g53_ok (tab_cons g54_ok (tab_nil fls_fun)))))) Try.func19 (fun args w => by simp)).imp fun xs h k e0 => by
  obtain ⟨a0, xs0, rfl, e1⟩ := arg_imp e0
  obtain ⟨rfl, e2⟩ := noArg_imp e1
  exact (s19_eq J0 s39 s42 s53 s54 a0 h k).mpr e2
/-- stagepost/stagepostref23.Lift -/
noncomputable def s21G (J : Joins) (c38 : Str → H → (Str → H → Prop) → Prop) (c43 : Str → H → (Bool → H → Prop) → Prop) (a0 : Str) (h : H) (k : AV → Int → H → Prop) : Prop :=
pushK (.cells false 23 [(.str ⟨0, 0⟩), (.str ⟨0, 0⟩), (.bool false)]) h fun n1 h2 =>
c43 a0 h2 fun b4 h3 =>
fB (Bool.not b4) fun b5 =>
br b5 (
stN 3 (AV.ptr n1 0) [(.str ⟨0, 0⟩), (.str ⟨0, 0⟩), (.bool false)] h3 fun h6 =>
ldN 3 (AV.ptr n1 0) h6 fun l7 =>
k (AV.agg l7) (Int.ofNat 2) h6) (
c38 a0 h3 fun s9 h8 =>
ck (Nat.ble (Nat.add (⟨1, 105⟩ : Str).len s9.len) 9223372036854775807) (fS (Str.cat (⟨1, 105⟩ : Str) s9) fun s10 =>
stN 3 (AV.ptr n1 0) [(AV.str s10), (.str ⟨0, 0⟩), (AV.bool true)] h8 fun h11 =>
ldN 3 (AV.ptr n1 0) h11 fun l12 =>
k (AV.agg l12) (Int.ofNat 0) h11))
noncomputable def s21 : Str → H → (AV → Int → H → Prop) → Prop := s21G J0 s38 s43
noncomputable def w21 (c : Str → H → (AV → Int → H → Prop) → Prop) : Fun := fun xs h k => arg xs fun a0 xs => noArg xs <| asS a0 fun a0 => c a0 h fun r0 r1 h => k (.tuple [r0, (.int .i64 r1)]) h
theorem s21_eq (J : Joins) (c38 : Str → H → (Str → H → Prop) → Prop) (c43 : Str → H → (Bool → H → Prop) → Prop) (a0 : Str) (h : H) (k : AV → H → Prop) : denF ty (gam J [(38, w38 c38), (43, w43 c43)]) Try.f21 [(.str a0)] h k = s21G J c38 c43 a0 h (fun r0 r1 h => k (.tuple [r0, (.int .i64 r1)]) h) := by kernel_rfl
noncomputable def g21 : Fun := w21 s21
theorem g21_ok : FunOk Try.prog 21 g21 := (fun_ok ty_ok mixed (gam_ok (J := J0) (tab_cons g38_ok (tab_cons g43_ok (tab_nil fls_fun)))) Try.func21 (fun args w => by simp)).imp fun xs h k e0 => by
  obtain ⟨a0, xs0, rfl, e1⟩ := arg_imp e0
  obtain ⟨rfl, e2⟩ := noArg_imp e1
  obtain ⟨a0, rfl, e3⟩ := asS_iff.1 e2
  exact (s21_eq J0 s38 s43 a0 h k).mpr e3
/-- stagepost/stagepostlaw23.MvccCalls -/
noncomputable def s4G (J : Joins) (c7 : AV → H → (AV → Int → H → Prop) → Prop) (c9 : H → (Bool → H → Prop) → Prop) (c11 : AV → H → (Int → H → Prop) → Prop) (c12 : AV → H → (AV → Int → H → Prop) → Prop) (c13 : AV → H → (AV → Int → H → Prop) → Prop) (c14 : AV → H → (AV → Int → H → Prop) → Prop) (c15 : AV → H → (Int → H → Prop) → Prop) (c16 : AV → H → (Int → H → Prop) → Prop) (c17 : AV → H → (Int → H → Prop) → Prop) (c18 : AV → H → (AV → Int → H → Prop) → Prop) (c19 : AV → H → (AV → Int → H → Prop) → Prop) (c20 : Str → H → (AV → Int → H → Prop) → Prop) (c21 : Str → H → (AV → Int → H → Prop) → Prop) (a0 : AV) (a1 : AV) (a2 : AV) (a3 : Str) (h : H) (k : Bool → H → Prop) : Prop :=
Go.Am.asAgg a0 fun l3 =>
pushK (.cells false 31 l3) h fun n1 h2 =>
Go.Am.asAgg a1 fun l6 =>
pushK (.cells false 41 l6) h2 fun n4 h5 =>
Go.Am.asAgg a2 fun l9 =>
pushK (.cells false 45 l9) h5 fun n7 h8 =>
ldN 6 (AV.ptr n1 0) h8 fun l10 =>
c7 (AV.agg l10) h8 fun v12 x13 h11 =>
pushK (.cells false 23 [(.str ⟨0, 0⟩), (.str ⟨0, 0⟩), (.bool false)]) h11 fun n14 h15 =>
Go.Am.asAgg v12 fun l17 =>
stN 3 (AV.ptr n14 0) l17 h15 fun h16 =>
ldN 6 (AV.ptr n1 0) h16 fun l18 =>
c12 (AV.agg l18) h16 fun v20 x21 h19 =>
pushK (.cells false 23 [(.str ⟨0, 0⟩), (.str ⟨0, 0⟩), (.bool false)]) h19 fun n22 h23 =>
Go.Am.asAgg v20 fun l25 =>
stN 3 (AV.ptr n22 0) l25 h23 fun h24 =>
ldN 12 (AV.ptr n4 0) h24 fun l26 =>
c13 (AV.agg l26) h24 fun v28 x29 h27 =>
pushK (.cells false 23 [(.str ⟨0, 0⟩), (.str ⟨0, 0⟩), (.bool false)]) h27 fun n30 h31 =>
Go.Am.asAgg v28 fun l33 =>
stN 3 (AV.ptr n30 0) l33 h31 fun h32 =>
ldN 12 (AV.ptr n4 0) h32 fun l34 =>
c14 (AV.agg l34) h32 fun v36 x37 h35 =>
pushK (.cells false 23 [(.str ⟨0, 0⟩), (.str ⟨0, 0⟩), (.bool false)]) h35 fun n38 h39 =>
Go.Am.asAgg v36 fun l41 =>
stN 3 (AV.ptr n38 0) l41 h39 fun h40 =>
c9  h40 fun b43 h42 =>
fB (Bool.not b43) fun b44 =>
J.jb (fun b45 v46 =>
J.jb (fun b49 v50 =>
J.jn (fun v53 h54 =>
ck (Bool.rec (motive := fun _ => Bool) true (readsSo (aLoadN 6 (AV.ptr n1 0) h54) v50) b49) (
J.jn (fun v58 h59 =>
J.jn (fun v63 h64 =>
pickB (AV.bool b44) (AV.bool true) v63 fun b69 =>
J.jb (fun b70 v71 =>
J.jb (fun b74 v75 =>
J.jn (fun v78 h79 =>
ck (Bool.rec (motive := fun _ => Bool) true (readsSo (aLoadN 12 (AV.ptr n4 0) h79) v75) b74) (
J.jn (fun v83 h84 =>
J.jn (fun v88 h89 =>
pickB (AV.bool b69) (AV.bool true) v88 fun b94 =>
J.jb (fun b95 v96 =>
J.jb (fun b99 v100 =>
J.jn (fun v103 h104 =>
pickB (AV.bool b94) (AV.bool true) v103 fun b107 =>
J.jn (fun v108 h109 =>
J.jn (fun v111 h112 =>
J.jn (fun v114 h115 =>
pickB (AV.bool b107) (AV.bool true) v114 fun b120 =>
J.jb (fun b121 v122 =>
J.jb (fun b125 v126 =>
J.jn (fun v129 h130 =>
pickB (AV.bool b120) (AV.bool true) v129 fun b133 =>
J.jn (fun v134 h135 =>
J.jn (fun v137 h138 =>
J.jn (fun v140 h141 =>
pickB (AV.bool b133) (AV.bool true) v140 fun b146 =>
br b146 (
k false h141) (
ldN 11 (AV.ptr n7 0) h141 fun l147 =>
c18 (AV.agg l147) h141 fun v149 x150 h148 =>
Go.Am.asAgg v149 fun l152 =>
stN 3 (AV.ptr n14 0) l152 h148 fun h151 =>
ldN 11 (AV.ptr n7 0) h151 fun l153 =>
c19 (AV.agg l153) h151 fun v155 x156 h154 =>
Go.Am.asAgg v155 fun l158 =>
stN 3 (AV.ptr n22 0) l158 h154 fun h157 =>
c20 a3 h157 fun v160 x161 h159 =>
Go.Am.asAgg v160 fun l163 =>
stN 3 (AV.ptr n30 0) l163 h159 fun h162 =>
c21 a3 h162 fun v165 x166 h164 =>
Go.Am.asAgg v165 fun l168 =>
stN 3 (AV.ptr n38 0) l168 h164 fun h167 =>
ldN 3 (AV.ptr n14 0) h167 fun l169 =>
ldN 3 (AV.ptr n22 0) h167 fun l170 =>
obK (aBin ty .eql 23 false (AV.agg l169) (AV.agg l170)) fun b171 =>
J.jn (fun v172 h173 =>
J.jn (fun v175 h176 =>
J.jn (fun v178 h179 =>
pickB (AV.bool b171) v178 (AV.bool false) fun b184 =>
J.jn (fun v185 h186 =>
J.jn (fun v189 h190 =>
J.jn (fun v193 h194 =>
pickB (AV.bool b184) v193 (AV.bool false) fun b197 =>
J.jn (fun v198 h199 =>
J.jn (fun v201 h202 =>
J.jn (fun v204 h205 =>
pickB (AV.bool b197) v204 (AV.bool false) fun b210 =>
k b210 h205) fun j206 =>
br b197 (
asI .i64 v198 fun x207 =>
asI .i64 v201 fun x208 =>
fB (eqI x207 x208) fun b209 =>
j206 (AV.bool b209) h202) (
j206 skipV h202)) fun j203 =>
br b197 (
j203 (AV.int .i64 x166) h199) (
j203 skipV h199)) fun j200 =>
br b197 (
j200 (AV.int .i64 x161) h194) (
j200 skipV h194)) fun j195 =>
br b184 (
obK (aBin ty .eql 23 false v185 v189) fun b196 =>
j195 (AV.bool b196) h190) (
j195 skipV h190)) fun j191 =>
br b184 (
ldN 3 (AV.ptr n38 0) h186 fun l192 =>
j191 (AV.agg l192) h186) (
j191 skipV h186)) fun j187 =>
br b184 (
ldN 3 (AV.ptr n30 0) h179 fun l188 =>
j187 (AV.agg l188) h179) (
j187 skipV h179)) fun j180 =>
br b171 (
asI .i64 v172 fun x181 =>
asI .i64 v175 fun x182 =>
fB (eqI x181 x182) fun b183 =>
j180 (AV.bool b183) h176) (
j180 skipV h176)) fun j177 =>
br b171 (
j177 (AV.int .i64 x156) h173) (
j177 skipV h173)) fun j174 =>
br b171 (
j174 (AV.int .i64 x150) h167) (
j174 skipV h167))) fun j142 =>
br b133 (
j142 skipV h138) (
asI .i64 v134 fun x143 =>
asI .i64 v137 fun x144 =>
fB (Bool.not (eqI x143 x144)) fun b145 =>
j142 (AV.bool b145) h138)) fun j139 =>
br b133 (
j139 skipV h135) (
j139 (AV.int .i64 x37) h135)) fun j136 =>
br b133 (
j136 skipV h130) (
j136 (AV.int .i64 x29) h130)) fun j131 =>
br b120 (
j131 skipV h115) (
obK (aBin ty .neq 23 false v122 v126) fun b132 =>
j131 (AV.bool b132) h115)) fun j127 =>
br b120 (
j127 false skipV) (
ldN 3 (AV.ptr n38 0) h115 fun l128 =>
j127 true (AV.agg l128))) fun j123 =>
br b120 (
j123 false skipV) (
ldN 3 (AV.ptr n30 0) h115 fun l124 =>
j123 true (AV.agg l124))) fun j116 =>
br b107 (
j116 skipV h112) (
asI .i64 v108 fun x117 =>
asI .i64 v111 fun x118 =>
fB (Bool.not (eqI x117 x118)) fun b119 =>
j116 (AV.bool b119) h112)) fun j113 =>
br b107 (
j113 skipV h109) (
j113 (AV.int .i64 x21) h109)) fun j110 =>
br b107 (
j110 skipV h104) (
j110 (AV.int .i64 x13) h104)) fun j105 =>
br b94 (
j105 skipV h89) (
obK (aBin ty .neq 23 false v96 v100) fun b106 =>
j105 (AV.bool b106) h89)) fun j101 =>
br b94 (
j101 false skipV) (
ldN 3 (AV.ptr n22 0) h89 fun l102 =>
j101 true (AV.agg l102))) fun j97 =>
br b94 (
j97 false skipV) (
ldN 3 (AV.ptr n14 0) h89 fun l98 =>
j97 true (AV.agg l98))) fun j90 =>
br b69 (
j90 skipV h84) (
asI .i64 v78 fun x91 =>
asI .i64 v83 fun x92 =>
fB (Bool.not (eqI x91 x92)) fun b93 =>
j90 (AV.bool b93) h84)) fun j85 =>
br b69 (
j85 skipV h79) (
c17 v75 h79 fun x87 h86 =>
j85 (AV.int .i64 x87) h86))) fun j80 =>
br b69 (
j80 skipV h64) (
c16 v71 h64 fun x82 h81 =>
j80 (AV.int .i64 x82) h81)) fun j76 =>
br b69 (
j76 false skipV) (
ldN 12 (AV.ptr n4 0) h64 fun l77 =>
j76 true (AV.agg l77))) fun j72 =>
br b69 (
j72 false skipV) (
ldN 12 (AV.ptr n4 0) h64 fun l73 =>
j72 true (AV.agg l73))) fun j65 =>
br b44 (
j65 skipV h59) (
asI .i64 v53 fun x66 =>
asI .i64 v58 fun x67 =>
fB (Bool.not (eqI x66 x67)) fun b68 =>
j65 (AV.bool b68) h59)) fun j60 =>
br b44 (
j60 skipV h54) (
c15 v50 h54 fun x62 h61 =>
j60 (AV.int .i64 x62) h61))) fun j55 =>
br b44 (
j55 skipV h42) (
c11 v46 h42 fun x57 h56 =>
j55 (AV.int .i64 x57) h56)) fun j51 =>
br b44 (
j51 false skipV) (
ldN 6 (AV.ptr n1 0) h42 fun l52 =>
j51 true (AV.agg l52))) fun j47 =>
br b44 (
j47 false skipV) (
ldN 6 (AV.ptr n1 0) h42 fun l48 =>
j47 true (AV.agg l48))
noncomputable def s4 : AV → AV → AV → Str → H → (Bool → H → Prop) → Prop := s4G J0 s7 s9 s11 s12 s13 s14 s15 s16 s17 s18 s19 s20 s21
noncomputable def w4 (c : AV → AV → AV → Str → H → (Bool → H → Prop) → Prop) : Fun := fun xs h k => arg xs fun a0 xs => arg xs fun a1 xs => arg xs fun a2 xs => arg xs fun a3 xs => noArg xs <| asS a3 fun a3 => c a0 a1 a2 a3 h fun r0 h => k (.bool r0) h
theorem s4_eq (J : Joins) (c7 : AV → H → (AV → Int → H → Prop) → Prop) (c9 : H → (Bool → H → Prop) → Prop) (c11 : AV → H → (Int → H → Prop) → Prop) (c12 : AV → H → (AV → Int → H → Prop) → Prop) (c13 : AV → H → (AV → Int → H → Prop) → Prop) (c14 : AV → H → (AV → Int → H → Prop) → Prop) (c15 : AV → H → (Int → H → Prop) → Prop) (c16 : AV → H → (Int → H → Prop) → Prop) (c17 : AV → H → (Int → H → Prop) → Prop) (c18 : AV → H → (AV → Int → H → Prop) → Prop) (c19 : AV → H → (AV → Int → H → Prop) → Prop) (c20 : Str → H → (AV → Int → H → Prop) → Prop) (c21 : Str → H → (AV → Int → H → Prop) → Prop) (a0 : AV) (a1 : AV) (a2 : AV) (a3 : Str) (h : H) (k : AV → H → Prop) : denF ty (gam J [(7, w7 c7), (9, w9 c9), (11, w11 c11), (12, w12 c12), (13, w13 c13), (14, w14 c14), (15, w15 c15), (16, w16 c16), (17, w17 c17), (18, w18 c18), (19, w19 c19), (20, w20 c20), (21, w21 c21)]) Try.f4 [a0, a1, a2, (.str a3)] h k = s4G J c7 c9 c11 c12 c13 c14 c15 c16 c17 c18 c19 c20 c21 a0 a1 a2 a3 h (fun r0 h => k (.bool r0) h) := by kernel_rfl
noncomputable def g4 : Fun := w4 s4
theorem g4_ok : FunOk Try.prog 4 g4 := (fun_ok ty_ok mixed (gam_ok (J := J0) (tab_cons g7_ok (tab_cons g9_ok (tab_cons g11_ok (tab_cons g12_ok (tab_cons g13_ok (tab_cons g14_ok (tab_cons g15_ok (tab_cons g16_ok (tab_cons g17_ok (tab_cons g18_ok (tab_cons g19_ok (tab_cons g20_ok (tab_cons g21_ok (tab_nil fls_fun))))))))))))))) Try.func4 (fun args w => by simp)).imp fun xs h k e0 => by
  obtain ⟨a0, xs0, rfl, e1⟩ := arg_imp e0
  obtain ⟨a1, xs1, rfl, e2⟩ := arg_imp e1
  obtain ⟨a2, xs2, rfl, e3⟩ := arg_imp e2
  obtain ⟨a3, xs3, rfl, e4⟩ := arg_imp e3
  obtain ⟨rfl, e5⟩ := noArg_imp e4
  obtain ⟨a3, rfl, e6⟩ := asS_iff.1 e5
  exact (s4_eq J0 s7 s9 s11 s12 s13 s14 s15 s16 s17 s18 s19 s20 s21 a0 a1 a2 a3 h k).mpr e6
/-- stagepost/stagepostref23.unmiddle -/
noncomputable def s55G (J : Joins) (a0 : Str) (h : H) (k : Str → Int → Bool → H → Prop) : Prop :=
J.lp (α := AV × AV × AV × Unit) (fun r4 v1 d2 h3 =>
asS v1.1 fun s5 =>
asI .i64 v1.2.2.1 fun x6 =>
fB (ltI x6 (Int.ofNat s5.len)) fun b7 =>
br b7 (
J.jd (α := AV × AV × AV × Unit) (fun v8 d9 h10 =>
asI .i64 v8.2.2.1 fun x12 =>
fI (wrapF .i64 (Int.add x12 (Int.ofNat 1))) fun x13 =>
r4 (v8.1, v8.2.1, (AV.int .i64 x13), ()) d9 h10) fun j11 =>
ixsK v1.1 v1.2.2.1 fun x14 =>
fB (Bool.not (eqI x14 (Int.ofNat 0))) fun b15 =>
br b15 (
ixsK v1.1 v1.2.2.1 fun x16 =>
op' (asRow true 5 [(AV.int .u8 x16)]) fun k19 =>
pushK k19 h3 fun n17 h18 =>
apB (.slice 5) 5 v1.2.1 (AV.slice n17 0 1 1 1 true) h18 fun v20 h21 =>
j11 (v1.1, v20, v1.2.2.1, ()) d2 h21) (
asI .i64 v1.2.2.1 fun x22 =>
fI (wrapF .i64 (Int.add x22 (Int.ofNat 1))) fun x23 =>
asS v1.1 fun s24 =>
fB (Bool.not (ltI x23 (Int.ofNat s24.len))) fun b25 =>
br b25 (
leaveK (gam J []) d2 h3 fun h26 =>
k ⟨0, 0⟩ (Int.ofNat 0) false h26) (
asI .i64 v1.2.2.1 fun x27 =>
fI (wrapF .i64 (Int.add x27 (Int.ofNat 1))) fun x28 =>
ixsK v1.1 (AV.int .i64 x28) fun x29 =>
fB (eqI x29 (Int.ofNat 1)) fun b30 =>
br b30 (
toStrK v1.2.1 h3 fun s31 =>
asI .i64 v1.2.2.1 fun x32 =>
fI (wrapF .i64 (Int.add x32 (Int.ofNat 2))) fun x33 =>
leaveK (gam J []) d2 h3 fun h34 =>
k s31 x33 true h34) (
asI .i64 v1.2.2.1 fun x35 =>
fI (wrapF .i64 (Int.add x35 (Int.ofNat 1))) fun x36 =>
ixsK v1.1 (AV.int .i64 x36) fun x37 =>
fB (Bool.not (eqI x37 (Int.ofNat 255))) fun b38 =>
br b38 (
leaveK (gam J []) d2 h3 fun h39 =>
k ⟨0, 0⟩ (Int.ofNat 0) false h39) (
op' (asRow true 5 [(AV.int .u8 (Int.ofNat 0))]) fun k42 =>
pushK k42 h3 fun n40 h41 =>
apB (.slice 5) 5 v1.2.1 (AV.slice n40 0 1 1 1 true) h41 fun v43 h44 =>
asI .i64 v1.2.2.1 fun x45 =>
fI (wrapF .i64 (Int.add x45 (Int.ofNat 1))) fun x46 =>
j11 (v1.1, v43, (AV.int .i64 x46), ()) d2 h44))))) (
leaveK (gam J []) d2 h3 fun h47 =>
k ⟨0, 0⟩ (Int.ofNat 0) false h47)) ((AV.str a0), AV.nils, (AV.int .i64 (Int.ofNat 0)), ()) [] h
noncomputable def s55 : Str → H → (Str → Int → Bool → H → Prop) → Prop := s55G J0 
noncomputable def w55 (c : Str → H → (Str → Int → Bool → H → Prop) → Prop) : Fun := fun xs h k => arg xs fun a0 xs => noArg xs <| asS a0 fun a0 => c a0 h fun r0 r1 r2 h => k (.tuple [(.str r0), (.int .i64 r1), (.bool r2)]) h
theorem s55_eq (J : Joins) (a0 : Str) (h : H) (k : AV → H → Prop) : denF ty (gam J []) Try.f55 [(.str a0)] h k = s55G J  a0 h (fun r0 r1 r2 h => k (.tuple [(.str r0), (.int .i64 r1), (.bool r2)]) h) := by kernel_rfl
noncomputable def g55 : Fun := w55 s55
theorem g55_ok : FunOk Try.prog 55 g55 := (fun_ok ty_ok mixed (gam_ok (J := J0) (tab_nil fls_fun)) Try.func55 (fun args w => by simp)).imp fun xs h k e0 => by
  obtain ⟨a0, xs0, rfl, e1⟩ := arg_imp e0
  obtain ⟨rfl, e2⟩ := noArg_imp e1
  obtain ⟨a0, rfl, e3⟩ := asS_iff.1 e2
  exact (s55_eq J0  a0 h k).mpr e3
/-- stagepost/stagepostref01.Unstamp -/
noncomputable def s56G (J : Joins) (a0 : Str) (h : H) (k : AV → Int → H → Prop) : Prop :=
pushK (.cells false 28 [(.int .i64 0), (.int .i32 0), (.int .i32 0)]) h fun n1 h2 =>
fB (Bool.not (eqI (Int.ofNat a0.len) (Int.ofNat 16))) fun b3 =>
br b3 (
stN 3 (AV.ptr n1 0) [(.int .i64 0), (.int .i32 0), (.int .i32 0)] h2 fun h4 =>
ldN 3 (AV.ptr n1 0) h4 fun l5 =>
k (AV.agg l5) (Int.ofNat 5) h4) (
J.lp (α := AV × AV × AV × AV × AV × AV × Unit) (fun r9 v6 d7 h8 =>
asI .i64 v6.2.2.2.2.2.1 fun x10 =>
fB (ltI x10 (Int.ofNat 8)) fun b11 =>
br b11 (
asI .u64 v6.2.2.1 fun x12 =>
fI (wrapF .u64 (Int.mul x12 (Int.ofNat 256))) fun x13 =>
ixsK v6.1 v6.2.2.2.2.2.1 fun x14 =>
fI (wrapF .u64 x14) fun x15 =>
fI (wrapF .u64 (Int.add x13 x15)) fun x16 =>
asI .i64 v6.2.2.2.2.2.1 fun x17 =>
fI (wrapF .i64 (Int.add x17 (Int.ofNat 1))) fun x18 =>
r9 (v6.1, v6.2.1, (AV.int .u64 x16), v6.2.2.2.1, v6.2.2.2.2.1, (AV.int .i64 x18), ()) d7 h8) (
J.lp (α := AV × AV × AV × AV × AV × AV × Unit) (fun r22 v19 d20 h21 =>
asI .i64 v19.2.2.2.2.2.1 fun x23 =>
fB (ltI x23 (Int.ofNat 12)) fun b24 =>
br b24 (
asI .u64 v19.2.2.2.1 fun x25 =>
fI (wrapF .u64 (Int.mul x25 (Int.ofNat 256))) fun x26 =>
ixsK v19.1 v19.2.2.2.2.2.1 fun x27 =>
fI (wrapF .u64 x27) fun x28 =>
fI (wrapF .u64 (Int.add x26 x28)) fun x29 =>
asI .u64 v19.2.2.2.2.1 fun x30 =>
fI (wrapF .u64 (Int.mul x30 (Int.ofNat 256))) fun x31 =>
asI .i64 v19.2.2.2.2.2.1 fun x32 =>
fI (wrapF .i64 (Int.add x32 (Int.ofNat 4))) fun x33 =>
ixsK v19.1 (AV.int .i64 x33) fun x34 =>
fI (wrapF .u64 x34) fun x35 =>
fI (wrapF .u64 (Int.add x31 x35)) fun x36 =>
asI .i64 v19.2.2.2.2.2.1 fun x37 =>
fI (wrapF .i64 (Int.add x37 (Int.ofNat 1))) fun x38 =>
r22 (v19.1, v19.2.1, v19.2.2.1, (AV.int .u64 x29), (AV.int .u64 x36), (AV.int .i64 x38), ()) d20 h21) (
asI .u64 v19.2.2.1 fun x39 =>
fB (ltI (Int.ofNat 9223372036854775807) x39) fun b40 =>
J.jn (fun v41 h42 =>
J.jn (fun v44 h45 =>
pickB (AV.bool b40) (AV.bool true) v44 fun b49 =>
J.jn (fun v50 h51 =>
J.jn (fun v53 h54 =>
pickB (AV.bool b49) (AV.bool true) v53 fun b58 =>
br b58 (
stN 3 v19.2.1 [(.int .i64 0), (.int .i32 0), (.int .i32 0)] h54 fun h59 =>
leaveK (gam J []) d20 h59 fun h60 =>
ldN 3 v19.2.1 h60 fun l61 =>
k (AV.agg l61) (Int.ofNat 5) h60) (
asI .u64 v19.2.2.1 fun x62 =>
fI (wrapF .u64 (Int.sub (Int.ofNat 9223372036854775807) x62)) fun x63 =>
fI (wrapF .i64 x63) fun x64 =>
asI .u64 v19.2.2.2.1 fun x65 =>
fI (wrapF .u64 (Int.sub (Int.ofNat 2147483647) x65)) fun x66 =>
fI (wrapF .i32 x66) fun x67 =>
asI .u64 v19.2.2.2.2.1 fun x68 =>
fI (wrapF .u64 (Int.sub (Int.ofNat 2147483647) x68)) fun x69 =>
fI (wrapF .i32 x69) fun x70 =>
pushK (.cells false 28 [(.int .i64 0), (.int .i32 0), (.int .i32 0)]) h54 fun n71 h72 =>
stN 3 (AV.ptr n71 0) [(AV.int .i64 x64), (AV.int .i32 x67), (AV.int .i32 x70)] h72 fun h73 =>
ldI .i64 (AV.ptr n71 0) h73 fun x74 =>
fB (ltI (Int.ofNat 1099511627776) x74) fun b75 =>
J.jn (fun v76 h77 =>
J.jn (fun v79 h80 =>
J.jn (fun v83 h84 =>
pickB (AV.bool b75) (AV.bool true) v83 fun b88 =>
J.jn (fun v89 h90 =>
J.jn (fun v92 h93 =>
J.jn (fun v96 h97 =>
pickB (AV.bool b88) (AV.bool true) v96 fun b101 =>
br b101 (
stN 3 v19.2.1 [(.int .i64 0), (.int .i32 0), (.int .i32 0)] h97 fun h102 =>
leaveK (gam J []) d20 h102 fun h103 =>
ldN 3 v19.2.1 h103 fun l104 =>
k (AV.agg l104) (Int.ofNat 5) h103) (
ldN 3 (AV.ptr n71 0) h97 fun l105 =>
stN 3 v19.2.1 l105 h97 fun h106 =>
leaveK (gam J []) d20 h106 fun h107 =>
ldN 3 v19.2.1 h107 fun l108 =>
k (AV.agg l108) (Int.ofNat 0) h107)) fun j98 =>
br b88 (
j98 skipV h93) (
asI .i32 v92 fun x99 =>
fB (ltI (Int.ofNat 1048576) x99) fun b100 =>
j98 (AV.bool b100) h93)) fun j94 =>
br b88 (
j94 skipV h90) (
ldI .i32 v89 h90 fun x95 =>
j94 (AV.int .i32 x95) h90)) fun j91 =>
br b88 (
j91 skipV h84) (
j91 (AV.ptr n71 2) h84)) fun j85 =>
br b75 (
j85 skipV h80) (
asI .i32 v79 fun x86 =>
fB (ltI (Int.ofNat 1048576) x86) fun b87 =>
j85 (AV.bool b87) h80)) fun j81 =>
br b75 (
j81 skipV h77) (
ldI .i32 v76 h77 fun x82 =>
j81 (AV.int .i32 x82) h77)) fun j78 =>
br b75 (
j78 skipV h73) (
j78 (AV.ptr n71 1) h73))) fun j55 =>
br b49 (
j55 skipV h51) (
asI .u64 v50 fun x56 =>
fB (ltI (Int.ofNat 2147483647) x56) fun b57 =>
j55 (AV.bool b57) h51)) fun j52 =>
br b49 (
j52 skipV h45) (
j52 v19.2.2.2.2.1 h45)) fun j46 =>
br b40 (
j46 skipV h42) (
asI .u64 v41 fun x47 =>
fB (ltI (Int.ofNat 2147483647) x47) fun b48 =>
j46 (AV.bool b48) h42)) fun j43 =>
br b40 (
j43 skipV h21) (
j43 v19.2.2.2.1 h21))) (v6.1, v6.2.1, v6.2.2.1, v6.2.2.2.1, v6.2.2.2.2.1, (AV.int .i64 (Int.ofNat 8)), ()) d7 h8)) ((AV.str a0), (AV.ptr n1 0), (AV.int .u64 (Int.ofNat 0)), (AV.int .u64 (Int.ofNat 0)), (AV.int .u64 (Int.ofNat 0)), (AV.int .i64 (Int.ofNat 0)), ()) [] h2)
noncomputable def s56 : Str → H → (AV → Int → H → Prop) → Prop := s56G J0 
noncomputable def w56 (c : Str → H → (AV → Int → H → Prop) → Prop) : Fun := fun xs h k => arg xs fun a0 xs => noArg xs <| asS a0 fun a0 => c a0 h fun r0 r1 h => k (.tuple [r0, (.int .i64 r1)]) h
theorem s56_eq (J : Joins) (a0 : Str) (h : H) (k : AV → H → Prop) : denF ty (gam J []) Try.f56 [(.str a0)] h k = s56G J  a0 h (fun r0 r1 h => k (.tuple [r0, (.int .i64 r1)]) h) := by kernel_rfl
noncomputable def g56 : Fun := w56 s56
theorem g56_ok : FunOk Try.prog 56 g56 := (fun_ok ty_ok mixed (gam_ok (J := J0) (tab_nil fls_fun)) Try.func56 (fun args w => by simp)).imp fun xs h k e0 => by
  obtain ⟨a0, xs0, rfl, e1⟩ := arg_imp e0
  obtain ⟨rfl, e2⟩ := noArg_imp e1
  obtain ⟨a0, rfl, e3⟩ := asS_iff.1 e2
  exact (s56_eq J0  a0 h k).mpr e3
/-- stagepost/stagepostref23.Cell -/
noncomputable def s22G (J : Joins) (c12 : AV → H → (AV → Int → H → Prop) → Prop) (c55 : Str → H → (Str → Int → Bool → H → Prop) → Prop) (c56 : Str → H → (AV → Int → H → Prop) → Prop) (a0 : AV) (h : H) (k : AV → Int → H → Prop) : Prop :=
Go.Am.asAgg a0 fun l3 =>
pushK (.cells false 36 l3) h fun n1 h2 =>
pushK (.cells false 31 [(.str ⟨0, 0⟩), (.int .i64 0), (.int .i32 0), (.int .i32 0), (.str ⟨0, 0⟩), (.bool false)]) h2 fun n4 h5 =>
ldS (AV.ptr n1 0) h5 fun s6 =>
fB (ltI (Int.ofNat s6.len) (Int.ofNat 1)) fun b7 =>
J.jn (fun v8 h9 =>
J.jn (fun v11 h12 =>
J.jn (fun v15 h16 =>
J.jn (fun v19 h20 =>
pickB (AV.bool b7) (AV.bool true) v19 fun b24 =>
br b24 (
stN 6 (AV.ptr n4 0) [(.str ⟨0, 0⟩), (.int .i64 0), (.int .i32 0), (.int .i32 0), (.str ⟨0, 0⟩), (.bool false)] h20 fun h25 =>
ldN 6 (AV.ptr n4 0) h25 fun l26 =>
k (AV.agg l26) (Int.ofNat 5) h25) (
ldS (AV.ptr n1 0) h20 fun s27 =>
subK (AV.str s27) (some (AV.int .i64 (Int.ofNat 1))) none fun s28 =>
c55 s28 h20 fun s30 x31 b32 h29 =>
fB (Bool.not b32) fun b33 =>
br b33 (
stN 6 (AV.ptr n4 0) [(.str ⟨0, 0⟩), (.int .i64 0), (.int .i32 0), (.int .i32 0), (.str ⟨0, 0⟩), (.bool false)] h29 fun h34 =>
ldN 6 (AV.ptr n4 0) h34 fun l35 =>
k (AV.agg l35) (Int.ofNat 5) h34) (
ldS (AV.ptr n1 0) h29 fun s36 =>
fI (wrapF .i64 (Int.add (Int.ofNat 1) x31)) fun x37 =>
subK (AV.str s36) (some (AV.int .i64 x37)) none fun s38 =>
c56 s38 h29 fun v40 x41 h39 =>
pushK (.cells false 28 [(.int .i64 0), (.int .i32 0), (.int .i32 0)]) h39 fun n42 h43 =>
Go.Am.asAgg v40 fun l45 =>
stN 3 (AV.ptr n42 0) l45 h43 fun h44 =>
ldN 3 (AV.ptr n42 0) h44 fun l46 =>
ldS (AV.ptr n1 1) h44 fun s47 =>
subK (AV.str s47) (some (AV.int .i64 (Int.ofNat 1))) none fun s48 =>
ldS (AV.ptr n1 1) h44 fun s49 =>
ixsK (AV.str s49) (AV.int .i64 (Int.ofNat 0)) fun x50 =>
fB (eqI x50 (Int.ofNat 1)) fun b51 =>
ck (Nat.beq (List.length l46) 3) (op' (lputAt 1 l46 [(AV.str s30), (.int .i64 0), (.int .i32 0), (.int .i32 0), (.str ⟨0, 0⟩), (.bool false)]) fun l52 =>
op' (lputAt 4 [(AV.str s48)] l52) fun l53 =>
op' (lputAt 5 [(AV.bool b51)] l53) fun l54 =>
pushK (.cells false 31 [(.str ⟨0, 0⟩), (.int .i64 0), (.int .i32 0), (.int .i32 0), (.str ⟨0, 0⟩), (.bool false)]) h44 fun n55 h56 =>
stN 6 (AV.ptr n55 0) l54 h56 fun h57 =>
ldN 6 (AV.ptr n55 0) h57 fun l58 =>
c12 (AV.agg l58) h57 fun v60 x61 h59 =>
pushK (.cells false 23 [(.str ⟨0, 0⟩), (.str ⟨0, 0⟩), (.bool false)]) h59 fun n62 h63 =>
Go.Am.asAgg v60 fun l65 =>
stN 3 (AV.ptr n62 0) l65 h63 fun h64 =>
fB (Bool.not (eqI x41 (Int.ofNat 0))) fun b66 =>
J.jn (fun v67 h68 =>
J.jn (fun v70 h71 =>
pickB (AV.bool b66) (AV.bool true) v70 fun b75 =>
J.jn (fun v76 h77 =>
J.jn (fun v79 h80 =>
J.jn (fun v83 h84 =>
J.jn (fun v86 h87 =>
J.jn (fun v90 h91 =>
pickB (AV.bool b75) (AV.bool true) v90 fun b96 =>
J.jn (fun v97 h98 =>
J.jn (fun v100 h101 =>
J.jn (fun v104 h105 =>
J.jn (fun v107 h108 =>
J.jn (fun v111 h112 =>
pickB (AV.bool b96) (AV.bool true) v111 fun b117 =>
br b117 (
stN 6 (AV.ptr n4 0) [(.str ⟨0, 0⟩), (.int .i64 0), (.int .i32 0), (.int .i32 0), (.str ⟨0, 0⟩), (.bool false)] h112 fun h118 =>
ldN 6 (AV.ptr n4 0) h118 fun l119 =>
k (AV.agg l119) (Int.ofNat 5) h118) (
ldN 6 (AV.ptr n55 0) h112 fun l120 =>
stN 6 (AV.ptr n4 0) l120 h112 fun h121 =>
ldN 6 (AV.ptr n4 0) h121 fun l122 =>
k (AV.agg l122) (Int.ofNat 0) h121)) fun j113 =>
br b96 (
j113 skipV h108) (
asS v100 fun s114 =>
asS v107 fun s115 =>
fB (Bool.not (Str.beq s114 s115)) fun b116 =>
j113 (AV.bool b116) h108)) fun j109 =>
br b96 (
j109 skipV h105) (
ldS v104 h105 fun s110 =>
j109 (AV.str s110) h105)) fun j106 =>
br b96 (
j106 skipV h101) (
j106 (AV.ptr n1 1) h101)) fun j102 =>
br b96 (
j102 skipV h98) (
ldS v97 h98 fun s103 =>
j102 (AV.str s103) h98)) fun j99 =>
br b96 (
j99 skipV h91) (
j99 (AV.ptr n62 1) h91)) fun j92 =>
br b75 (
j92 skipV h87) (
asS v79 fun s93 =>
asS v86 fun s94 =>
fB (Bool.not (Str.beq s93 s94)) fun b95 =>
j92 (AV.bool b95) h87)) fun j88 =>
br b75 (
j88 skipV h84) (
ldS v83 h84 fun s89 =>
j88 (AV.str s89) h84)) fun j85 =>
br b75 (
j85 skipV h80) (
j85 (AV.ptr n1 0) h80)) fun j81 =>
br b75 (
j81 skipV h77) (
ldS v76 h77 fun s82 =>
j81 (AV.str s82) h77)) fun j78 =>
br b75 (
j78 skipV h71) (
j78 (AV.ptr n62 0) h71)) fun j72 =>
br b66 (
j72 skipV h68) (
asI .i64 v67 fun x73 =>
fB (Bool.not (eqI x73 (Int.ofNat 0))) fun b74 =>
j72 (AV.bool b74) h68)) fun j69 =>
br b66 (
j69 skipV h64) (
j69 (AV.int .i64 x61) h64))))) fun j21 =>
br b7 (
j21 skipV h16) (
asI .i64 v15 fun x22 =>
fB (ltI x22 (Int.ofNat 1)) fun b23 =>
j21 (AV.bool b23) h16)) fun j17 =>
br b7 (
j17 skipV h12) (
asS v11 fun s18 =>
j17 (AV.int .i64 (Int.ofNat s18.len)) h12)) fun j13 =>
br b7 (
j13 skipV h9) (
ldS v8 h9 fun s14 =>
j13 (AV.str s14) h9)) fun j10 =>
br b7 (
j10 skipV h5) (
j10 (AV.ptr n1 1) h5)
noncomputable def s22 : AV → H → (AV → Int → H → Prop) → Prop := s22G J0 s12 s55 s56
noncomputable def w22 (c : AV → H → (AV → Int → H → Prop) → Prop) : Fun := fun xs h k => arg xs fun a0 xs => noArg xs <| c a0 h fun r0 r1 h => k (.tuple [r0, (.int .i64 r1)]) h
theorem s22_eq (J : Joins) (c12 : AV → H → (AV → Int → H → Prop) → Prop) (c55 : Str → H → (Str → Int → Bool → H → Prop) → Prop) (c56 : Str → H → (AV → Int → H → Prop) → Prop) (a0 : AV) (h : H) (k : AV → H → Prop) : denF ty (gam J [(12, w12 c12), (55, w55 c55), (56, w56 c56)]) Try.f22 [a0] h k = s22G J c12 c55 c56 a0 h (fun r0 r1 h => k (.tuple [r0, (.int .i64 r1)]) h) := by kernel_rfl
noncomputable def g22 : Fun := w22 s22
theorem g22_ok : FunOk Try.prog 22 g22 := (fun_ok ty_ok mixed (gam_ok (J := J0) (tab_cons g12_ok (tab_cons g55_ok (tab_cons g56_ok (tab_nil fls_fun))))) Try.func22 (fun args w => by simp)).imp fun xs h k e0 => by
  obtain ⟨a0, xs0, rfl, e1⟩ := arg_imp e0
  obtain ⟨rfl, e2⟩ := noArg_imp e1
  exact (s22_eq J0 s12 s55 s56 a0 h k).mpr e2
/-- stagepost/enc.Read -/
noncomputable def s85G (J : Joins) (a0 : AV) (h : H) (k : Int → Int → Int → H → Prop) : Prop :=
J.jd (α := Unit) (fun v1 d2 h3 =>
leaveK (gam J []) d2 h3 fun h5 =>
k (Int.ofNat 0) (Int.ofNat 0) (Int.ofNat 5) h5) fun j4 =>
J.lp (α := AV × AV × AV × Unit) (fun r9 v6 d7 h8 =>
lenK v6.1 fun x10 =>
asI .i64 v6.2.2.1 fun x11 =>
fB (ltI x11 (Int.ofNat x10)) fun b12 =>
J.jn (fun v13 h14 =>
J.jn (fun v16 h17 =>
pickB (AV.bool b12) v16 (AV.bool false) fun b21 =>
br b21 (
ixK 1 v6.1 v6.2.2.1 fun p22 =>
ldI .u8 p22 h17 fun x23 =>
asI .i64 v6.2.2.1 fun x24 =>
fB (eqI x24 (Int.ofNat 9)) fun b25 =>
J.jn (fun v26 h27 =>
J.jn (fun v29 h30 =>
pickB (AV.bool b25) v29 (AV.bool false) fun b34 =>
J.jn (fun v35 h36 =>
J.jn (fun v38 h39 =>
J.jn (fun v43 h44 =>
J.jn (fun v46 h47 =>
J.jn (fun v49 h50 =>
J.jn (fun v54 h55 =>
pickB (AV.bool b34) (AV.bool true) v54 fun b58 =>
br b58 (
j4 (()) d7 h55) (
fI (landnF .u8 x23 (Int.ofNat 128)) fun x59 =>
fI (wrapF .u64 x59) fun x60 =>
asI .i64 v6.2.2.1 fun x61 =>
fI (wrapF .i64 (Int.mul (Int.ofNat 7) x61)) fun x62 =>
asNat (AV.int .i64 x62) fun n63 =>
fI (shlF .u64 x60 n63) fun x64 =>
asI .u64 v6.2.1 fun x65 =>
fI (lorF .u64 x65 x64) fun x66 =>
asI .i64 v6.2.2.1 fun x67 =>
fI (wrapF .i64 (Int.add x67 (Int.ofNat 1))) fun x68 =>
fB (ltI x23 (Int.ofNat 128)) fun b69 =>
br b69 (
leaveK (gam J []) d7 h55 fun h70 =>
k x66 x68 (Int.ofNat 0) h70) (
r9 (v6.1, (AV.int .u64 x66), (AV.int .i64 x68), ()) d7 h55))) fun j56 =>
br b34 (
j56 skipV h50) (
pickB v43 v49 (AV.bool false) fun b57 =>
j56 (AV.bool b57) h50)) fun j51 =>
asBU v43 (fun b71 =>
br b71 (
asI .u8 v46 fun x52 =>
fB (eqI x52 (Int.ofNat 0)) fun b53 =>
j51 (AV.bool b53) h47) (
j51 skipV h47)) (
j51 skipV h47)) fun j48 =>
asBU v43 (fun b72 =>
br b72 (
j48 (AV.int .u8 x23) h44) (
j48 skipV h44)) (
j48 skipV h44)) fun j45 =>
br b34 (
j45 skipV h39) (
j45 v38 h39)) fun j40 =>
br b34 (
j40 skipV h36) (
asI .i64 v35 fun x41 =>
fB (ltI (Int.ofNat 0) x41) fun b42 =>
j40 (AV.bool b42) h36)) fun j37 =>
br b34 (
j37 skipV h30) (
j37 v6.2.2.1 h30)) fun j31 =>
br b25 (
asI .u8 v26 fun x32 =>
fB (ltI (Int.ofNat 1) x32) fun b33 =>
j31 (AV.bool b33) h27) (
j31 skipV h27)) fun j28 =>
br b25 (
j28 (AV.int .u8 x23) h17) (
j28 skipV h17)) (
j4 (()) d7 h17)) fun j18 =>
br b12 (
asI .i64 v13 fun x19 =>
fB (ltI x19 (Int.ofNat 10)) fun b20 =>
j18 (AV.bool b20) h14) (
j18 skipV h14)) fun j15 =>
br b12 (
j15 v6.2.2.1 h8) (
j15 skipV h8)) (a0, (AV.int .u64 (Int.ofNat 0)), (AV.int .i64 (Int.ofNat 0)), ()) [] h
noncomputable def s85 : AV → H → (Int → Int → Int → H → Prop) → Prop := s85G J0 
noncomputable def w85 (c : AV → H → (Int → Int → Int → H → Prop) → Prop) : Fun := fun xs h k => arg xs fun a0 xs => noArg xs <| c a0 h fun r0 r1 r2 h => k (.tuple [(.int .u64 r0), (.int .i64 r1), (.int .i64 r2)]) h
theorem s85_eq (J : Joins) (a0 : AV) (h : H) (k : AV → H → Prop) : denF ty (gam J []) Try.f85 [a0] h k = s85G J  a0 h (fun r0 r1 r2 h => k (.tuple [(.int .u64 r0), (.int .i64 r1), (.int .i64 r2)]) h) := by kernel_rfl
noncomputable def g85 : Fun := w85 s85
theorem g85_ok : FunOk Try.prog 85 g85 := (fun_ok ty_ok mixed (gam_ok (J := J0) (tab_nil fls_fun)) Try.func85 (fun args w => by simp)).imp fun xs h k e0 => by
  obtain ⟨a0, xs0, rfl, e1⟩ := arg_imp e0
  obtain ⟨rfl, e2⟩ := noArg_imp e1
  exact (s85_eq J0  a0 h k).mpr e2
/-- stagepost/enc.Small -/
noncomputable def s76G (J : Joins) (c85 : AV → H → (Int → Int → Int → H → Prop) → Prop) (a0 : AV) (a1 : Int) (h : H) (k : Int → Int → Int → H → Prop) : Prop :=
c85 a0 h fun x2 x3 x4 h1 =>
fB (Bool.not (eqI x4 (Int.ofNat 0))) fun b5 =>
J.jn (fun v6 h7 =>
J.jn (fun v9 h10 =>
pickB (AV.bool b5) (AV.bool true) v9 fun b14 =>
J.jn (fun v15 h16 =>
J.jn (fun v18 h19 =>
J.jn (fun v21 h22 =>
J.jn (fun v26 h27 =>
pickB (AV.bool b14) (AV.bool true) v26 fun b32 =>
br b32 (
k (Int.ofNat 0) (Int.ofNat 0) (Int.ofNat 5) h27) (
fI (wrapF .i64 x2) fun x33 =>
k x33 x3 (Int.ofNat 0) h27)) fun j28 =>
br b14 (
j28 skipV h22) (
asI .u64 v15 fun x29 =>
asI .u64 v21 fun x30 =>
fB (ltI x30 x29) fun b31 =>
j28 (AV.bool b31) h22)) fun j23 =>
br b14 (
j23 skipV h19) (
asI .i64 v18 fun x24 =>
fI (wrapF .u64 x24) fun x25 =>
j23 (AV.int .u64 x25) h19)) fun j20 =>
br b14 (
j20 skipV h16) (
j20 (AV.int .i64 a1) h16)) fun j17 =>
br b14 (
j17 skipV h10) (
j17 (AV.int .u64 x2) h10)) fun j11 =>
br b5 (
j11 skipV h7) (
asI .i64 v6 fun x12 =>
fB (ltI x12 (Int.ofNat 0)) fun b13 =>
j11 (AV.bool b13) h7)) fun j8 =>
br b5 (
j8 skipV h1) (
j8 (AV.int .i64 a1) h1)
noncomputable def s76 : AV → Int → H → (Int → Int → Int → H → Prop) → Prop := s76G J0 s85
noncomputable def w76 (c : AV → Int → H → (Int → Int → Int → H → Prop) → Prop) : Fun := fun xs h k => arg xs fun a0 xs => arg xs fun a1 xs => noArg xs <| asI .i64 a1 fun a1 => c a0 a1 h fun r0 r1 r2 h => k (.tuple [(.int .i64 r0), (.int .i64 r1), (.int .i64 r2)]) h
theorem s76_eq (J : Joins) (c85 : AV → H → (Int → Int → Int → H → Prop) → Prop) (a0 : AV) (a1 : Int) (h : H) (k : AV → H → Prop) : denF ty (gam J [(85, w85 c85)]) Try.f76 [a0, (.int .i64 a1)] h k = s76G J c85 a0 a1 h (fun r0 r1 r2 h => k (.tuple [(.int .i64 r0), (.int .i64 r1), (.int .i64 r2)]) h) := by kernel_rfl
noncomputable def g76 : Fun := w76 s76
theorem g76_ok : FunOk Try.prog 76 g76 := (fun_ok ty_ok mixed (gam_ok (J := J0) (tab_cons g85_ok (tab_nil fls_fun))) Try.func76 (fun args w => by simp)).imp fun xs h k e0 => by
  obtain ⟨a0, xs0, rfl, e1⟩ := arg_imp e0
  obtain ⟨a1, xs1, rfl, e2⟩ := arg_imp e1
  obtain ⟨rfl, e3⟩ := noArg_imp e2
  obtain ⟨a1, rfl, e4⟩ := asI_iff.1 e3
  exact (s76_eq J0 s85 a0 a1 h k).mpr e4
/-- (*stagepost/mvcc.reader).number -/
noncomputable def s59G (J : Joins) (c76 : AV → Int → H → (Int → Int → Int → H → Prop) → Prop) (a0 : AV) (a1 : Int) (h : H) (k : Int → H → Prop) : Prop :=
okNil a0 (
faK 0 a0 fun p1 =>
ldS p1 h fun s2 =>
pushK (.bytes 5 0 true s2) h fun n3 h4 =>
c76 (AV.slice n3 0 s2.len s2.len 1 false) a1 h4 fun x6 x7 x8 h5 =>
okNil a0 (
faK 1 a0 fun p9 =>
ldB p9 h5 fun b10 =>
J.jn (fun v11 h12 =>
J.jn (fun v14 h15 =>
pickB (AV.bool b10) (AV.bool true) v14 fun b19 =>
br b19 (
okNil a0 (
faK 1 a0 fun p20 =>
stV p20 (AV.bool true) h15 fun h21 =>
k (Int.ofNat 0) h21)) (
okNil a0 (
faK 0 a0 fun p22 =>
ldS p22 h15 fun s23 =>
subK (AV.str s23) (some (AV.int .i64 x7)) none fun s24 =>
okNil a0 (
faK 0 a0 fun p25 =>
stV p25 (AV.str s24) h15 fun h26 =>
k x6 h26)))) fun j16 =>
br b10 (
j16 skipV h12) (
asI .i64 v11 fun x17 =>
fB (Bool.not (eqI x17 (Int.ofNat 0))) fun b18 =>
j16 (AV.bool b18) h12)) fun j13 =>
br b10 (
j13 skipV h5) (
j13 (AV.int .i64 x8) h5)))
noncomputable def s59 : AV → Int → H → (Int → H → Prop) → Prop := s59G J0 s76
noncomputable def w59 (c : AV → Int → H → (Int → H → Prop) → Prop) : Fun := fun xs h k => arg xs fun a0 xs => arg xs fun a1 xs => noArg xs <| asI .i64 a1 fun a1 => c a0 a1 h fun r0 h => k (.int .i64 r0) h
theorem s59_eq (J : Joins) (c76 : AV → Int → H → (Int → Int → Int → H → Prop) → Prop) (a0 : AV) (a1 : Int) (h : H) (k : AV → H → Prop) : denF ty (gam J [(76, w76 c76)]) Try.f59 [a0, (.int .i64 a1)] h k = s59G J c76 a0 a1 h (fun r0 h => k (.int .i64 r0) h) := by kernel_rfl
noncomputable def g59 : Fun := w59 s59
theorem g59_ok : FunOk Try.prog 59 g59 := (fun_ok ty_ok mixed (gam_ok (J := J0) (tab_cons g76_ok (tab_nil fls_fun))) Try.func59 (fun args w => by simp)).imp fun xs h k e0 => by
  obtain ⟨a0, xs0, rfl, e1⟩ := arg_imp e0
  obtain ⟨a1, xs1, rfl, e2⟩ := arg_imp e1
  obtain ⟨rfl, e3⟩ := noArg_imp e2
  obtain ⟨a1, rfl, e4⟩ := asI_iff.1 e3
  exact (s59_eq J0 s76 a0 a1 h k).mpr e4
/-- (*stagepost/mvcc.reader).txn -/
noncomputable def s57G (J : Joins) (c59 : AV → Int → H → (Int → H → Prop) → Prop) (a0 : AV) (h : H) (k : AV → H → Prop) : Prop :=
pushK (.cells false 39 [(.int .i32 0), (.int .i32 0)]) h fun n1 h2 =>
c59 a0 (Int.ofNat 7) h2 fun x4 h3 =>
fI (wrapF .i32 x4) fun x5 =>
c59 a0 (Int.ofNat 1048576) h3 fun x7 h6 =>
fI (wrapF .i32 x7) fun x8 =>
stN 2 (AV.ptr n1 0) [(AV.int .i32 x5), (AV.int .i32 x8)] h6 fun h9 =>
ldN 2 (AV.ptr n1 0) h9 fun l10 =>
k (AV.agg l10) h9
noncomputable def s57 : AV → H → (AV → H → Prop) → Prop := s57G J0 s59
noncomputable def w57 (c : AV → H → (AV → H → Prop) → Prop) : Fun := fun xs h k => arg xs fun a0 xs => noArg xs <| c a0 h fun r0 h => k r0 h
theorem s57_eq (J : Joins) (c59 : AV → Int → H → (Int → H → Prop) → Prop) (a0 : AV) (h : H) (k : AV → H → Prop) : denF ty (gam J [(59, w59 c59)]) Try.f57 [a0] h k = s57G J c59 a0 h (fun r0 h => k r0 h) := by kernel_rfl
noncomputable def g57 : Fun := w57 s57
theorem g57_ok : FunOk Try.prog 57 g57 := (fun_ok ty_ok mixed (gam_ok (J := J0) (tab_cons g59_ok (tab_nil fls_fun))) Try.func57 (fun args w => by simp)).imp fun xs h k e0 => by
  obtain ⟨a0, xs0, rfl, e1⟩ := arg_imp e0
  obtain ⟨rfl, e2⟩ := noArg_imp e1
  exact (s57_eq J0 s59 a0 h k).mpr e2
/-- stagepost/mvcc.Intent -/
noncomputable def s23G (J : Joins) (c13 : AV → H → (AV → Int → H → Prop) → Prop) (c32 : AV → Str → H → (Str → H → Prop) → Prop) (c33 : AV → H → (AV → H → Prop) → Prop) (c34 : AV → H → (Bool → Str → H → Prop) → Prop) (c57 : AV → H → (AV → H → Prop) → Prop) (c58 : AV → Int → H → (Str → H → Prop) → Prop) (c59 : AV → Int → H → (Int → H → Prop) → Prop) (a0 : AV) (h : H) (k : AV → Int → H → Prop) : Prop :=
Go.Am.asAgg a0 fun l3 =>
pushK (.cells false 36 l3) h fun n1 h2 =>
pushK (.cells false 41 [(.str ⟨0, 0⟩), (.int .i32 0), (.int .i32 0), (.int .i64 0), (.int .i32 0), (.int .i32 0), (.str ⟨0, 0⟩), (.int .i64 0), (.int .i32 0), (.int .i32 0), (.str ⟨0, 0⟩), (.bool false)]) h2 fun n4 h5 =>
ldS (AV.ptr n1 0) h5 fun s6 =>
pushK (.cells false 63 [(AV.str s6), (.bool false)]) h5 fun n7 h8 =>
ldS (AV.ptr n1 1) h8 fun s9 =>
pushK (.cells false 63 [(AV.str s9), (.bool false)]) h8 fun n10 h11 =>
c32 (AV.ptr n7 0) ⟨1, 105⟩ h11 fun s13 h12 =>
c57 (AV.ptr n10 0) h12 fun v15 h14 =>
Go.Am.asAgg v15 fun l16 =>
ck (Nat.beq (List.length l16) 2) (op' (lputAt 1 l16 [(AV.str s13), (.int .i32 0), (.int .i32 0), (.int .i64 0), (.int .i32 0), (.int .i32 0), (.str ⟨0, 0⟩), (.int .i64 0), (.int .i32 0), (.int .i32 0), (.str ⟨0, 0⟩), (.bool false)]) fun l17 =>
pushK (.cells false 41 [(.str ⟨0, 0⟩), (.int .i32 0), (.int .i32 0), (.int .i64 0), (.int .i32 0), (.int .i32 0), (.str ⟨0, 0⟩), (.int .i64 0), (.int .i32 0), (.int .i32 0), (.str ⟨0, 0⟩), (.bool false)]) h14 fun n18 h19 =>
stN 12 (AV.ptr n18 0) l17 h19 fun h20 =>
c33 (AV.ptr n10 0) h20 fun v22 h21 =>
Go.Am.asAgg v22 fun l24 =>
stN 3 (AV.ptr n18 3) l24 h21 fun h23 =>
c33 (AV.ptr n10 0) h23 fun v26 h25 =>
Go.Am.asAgg v26 fun l28 =>
stN 3 (AV.ptr n18 7) l28 h25 fun h27 =>
c59 (AV.ptr n10 0) (Int.ofNat 128) h27 fun x30 h29 =>
c58 (AV.ptr n10 0) x30 h29 fun s32 h31 =>
stV (AV.ptr n18 6) (AV.str s32) h31 fun h33 =>
c34 (AV.ptr n10 0) h33 fun b35 s36 h34 =>
stV (AV.ptr n18 11) (AV.bool b35) h34 fun h37 =>
stV (AV.ptr n18 10) (AV.str s36) h37 fun h38 =>
ldN 12 (AV.ptr n18 0) h38 fun l39 =>
c13 (AV.agg l39) h38 fun v41 x42 h40 =>
pushK (.cells false 23 [(.str ⟨0, 0⟩), (.str ⟨0, 0⟩), (.bool false)]) h40 fun n43 h44 =>
Go.Am.asAgg v41 fun l46 =>
stN 3 (AV.ptr n43 0) l46 h44 fun h45 =>
fB (Bool.not (eqI x42 (Int.ofNat 0))) fun b47 =>
J.jn (fun v48 h49 =>
J.jn (fun v51 h52 =>
J.jn (fun v54 h55 =>
J.jn (fun v58 h59 =>
pickB (AV.bool b47) (AV.bool true) v58 fun b62 =>
J.jn (fun v63 h64 =>
J.jn (fun v66 h67 =>
J.jn (fun v69 h70 =>
J.jn (fun v73 h74 =>
pickB (AV.bool b62) (AV.bool true) v73 fun b77 =>
J.jn (fun v78 h79 =>
J.jn (fun v81 h82 =>
J.jn (fun v85 h86 =>
J.jn (fun v88 h89 =>
J.jn (fun v92 h93 =>
pickB (AV.bool b77) (AV.bool true) v92 fun b98 =>
J.jn (fun v99 h100 =>
J.jn (fun v102 h103 =>
J.jn (fun v106 h107 =>
J.jn (fun v109 h110 =>
J.jn (fun v113 h114 =>
pickB (AV.bool b98) (AV.bool true) v113 fun b119 =>
br b119 (
stN 12 (AV.ptr n4 0) [(.str ⟨0, 0⟩), (.int .i32 0), (.int .i32 0), (.int .i64 0), (.int .i32 0), (.int .i32 0), (.str ⟨0, 0⟩), (.int .i64 0), (.int .i32 0), (.int .i32 0), (.str ⟨0, 0⟩), (.bool false)] h114 fun h120 =>
ldN 12 (AV.ptr n4 0) h120 fun l121 =>
k (AV.agg l121) (Int.ofNat 5) h120) (
ldN 12 (AV.ptr n18 0) h114 fun l122 =>
stN 12 (AV.ptr n4 0) l122 h114 fun h123 =>
ldN 12 (AV.ptr n4 0) h123 fun l124 =>
k (AV.agg l124) (Int.ofNat 0) h123)) fun j115 =>
br b98 (
j115 skipV h110) (
asS v102 fun s116 =>
asS v109 fun s117 =>
fB (Bool.not (Str.beq s116 s117)) fun b118 =>
j115 (AV.bool b118) h110)) fun j111 =>
br b98 (
j111 skipV h107) (
ldS v106 h107 fun s112 =>
j111 (AV.str s112) h107)) fun j108 =>
br b98 (
j108 skipV h103) (
j108 (AV.ptr n1 1) h103)) fun j104 =>
br b98 (
j104 skipV h100) (
ldS v99 h100 fun s105 =>
j104 (AV.str s105) h100)) fun j101 =>
br b98 (
j101 skipV h93) (
j101 (AV.ptr n43 1) h93)) fun j94 =>
br b77 (
j94 skipV h89) (
asS v81 fun s95 =>
asS v88 fun s96 =>
fB (Bool.not (Str.beq s95 s96)) fun b97 =>
j94 (AV.bool b97) h89)) fun j90 =>
br b77 (
j90 skipV h86) (
ldS v85 h86 fun s91 =>
j90 (AV.str s91) h86)) fun j87 =>
br b77 (
j87 skipV h82) (
j87 (AV.ptr n1 0) h82)) fun j83 =>
br b77 (
j83 skipV h79) (
ldS v78 h79 fun s84 =>
j83 (AV.str s84) h79)) fun j80 =>
br b77 (
j80 skipV h74) (
j80 (AV.ptr n43 0) h74)) fun j75 =>
br b62 (
j75 skipV h70) (
ldB v69 h70 fun b76 =>
j75 (AV.bool b76) h70)) fun j71 =>
br b62 (
j71 skipV h67) (
faK 1 v66 fun p72 =>
j71 p72 h67)) fun j68 =>
br b62 (
j68 skipV h64) (
okNil v63 (
j68 v63 h64))) fun j65 =>
br b62 (
j65 skipV h59) (
j65 (AV.ptr n10 0) h59)) fun j60 =>
br b47 (
j60 skipV h55) (
ldB v54 h55 fun b61 =>
j60 (AV.bool b61) h55)) fun j56 =>
br b47 (
j56 skipV h52) (
faK 1 v51 fun p57 =>
j56 p57 h52)) fun j53 =>
br b47 (
j53 skipV h49) (
okNil v48 (
j53 v48 h49))) fun j50 =>
br b47 (
j50 skipV h45) (
j50 (AV.ptr n7 0) h45))
noncomputable def s23 : AV → H → (AV → Int → H → Prop) → Prop := s23G J0 s13 s32 s33 s34 s57 s58 s59
noncomputable def w23 (c : AV → H → (AV → Int → H → Prop) → Prop) : Fun := fun xs h k => arg xs fun a0 xs => noArg xs <| c a0 h fun r0 r1 h => k (.tuple [r0, (.int .i64 r1)]) h
theorem s23_eq (J : Joins) (c13 : AV → H → (AV → Int → H → Prop) → Prop) (c32 : AV → Str → H → (Str → H → Prop) → Prop) (c33 : AV → H → (AV → H → Prop) → Prop) (c34 : AV → H → (Bool → Str → H → Prop) → Prop) (c57 : AV → H → (AV → H → Prop) → Prop) (c58 : AV → Int → H → (Str → H → Prop) → Prop) (c59 : AV → Int → H → (Int → H → Prop) → Prop) (a0 : AV) (h : H) (k : AV → H → Prop) : denF ty (gam J [(13, w13 c13), (32, w32 c32), (33, w33 c33), (34, w34 c34), (57, w57 c57), (58, w58 c58), (59, w59 c59)]) Try.f23 [a0] h k = s23G J c13 c32 c33 c34 c57 c58 c59 a0 h (fun r0 r1 h => k (.tuple [r0, (.int .i64 r1)]) h) := by kernel_rfl
noncomputable def g23 : Fun := w23 s23
theorem g23_ok : FunOk Try.prog 23 g23 := (fun_ok ty_ok mixed (gam_ok (J := J0) (tab_cons g13_ok (tab_cons g32_ok (tab_cons g33_ok (tab_cons g34_ok (tab_cons g57_ok (tab_cons g58_ok (tab_cons g59_ok (tab_nil fls_fun))))))))) Try.func23 (fun args w => by simp)).imp fun xs h k e0 => by
  obtain ⟨a0, xs0, rfl, e1⟩ := arg_imp e0
  obtain ⟨rfl, e2⟩ := noArg_imp e1
  exact (s23_eq J0 s13 s32 s33 s34 s57 s58 s59 a0 h k).mpr e2
/-- stagepost/stagepostref01.Read -/
noncomputable def s86G (J : Joins) (c70 : Int → H → (AV → H → Prop) → Prop) (a0 : AV) (h : H) (k : Int → Int → Int → H → Prop) : Prop :=
J.lp (α := AV × AV × Unit) (fun r4 v1 d2 h3 =>
lenK v1.1 fun x5 =>
asI .i64 v1.2.1 fun x6 =>
fB (Bool.not (ltI (Int.ofNat x5) x6)) fun b7 =>
J.jn (fun v8 h9 =>
J.jn (fun v11 h12 =>
pickB (AV.bool b7) v11 (AV.bool false) fun b16 =>
br b16 (
asI .i64 v1.2.1 fun x17 =>
fI (wrapF .i64 (Int.sub x17 (Int.ofNat 1))) fun x18 =>
J.lp (α := AV × AV × AV × AV × Unit) (fun r22 v19 d20 h21 =>
asI .i64 v19.2.2.2.1 fun x23 =>
fB (Bool.not (ltI x23 (Int.ofNat 0))) fun b24 =>
br b24 (
asI .u64 v19.2.1 fun x25 =>
fI (wrapF .u64 (Int.mul x25 (Int.ofNat 128))) fun x26 =>
ixK 1 v19.1 v19.2.2.2.1 fun p27 =>
ldI .u8 p27 h21 fun x28 =>
ck (Bool.not (eqI (Int.ofNat 128) 0)) (fI (Int.tmod x28 (Int.ofNat 128)) fun x29 =>
fI (wrapF .u64 x29) fun x30 =>
fI (wrapF .u64 (Int.add x26 x30)) fun x31 =>
asI .i64 v19.2.2.2.1 fun x32 =>
fI (wrapF .i64 (Int.sub x32 (Int.ofNat 1))) fun x33 =>
r22 (v19.1, (AV.int .u64 x31), v19.2.2.1, (AV.int .i64 x33), ()) d20 h21)) (
asI .u64 v19.2.1 fun x35 =>
c70 x35 h21 fun v36 h34 =>
lenK v36 fun x37 =>
asI .i64 v19.2.2.1 fun x38 =>
fB (eqI (Int.ofNat x37) x38) fun b39 =>
J.lp (α := AV × AV × AV × AV × AV × AV × Unit) (fun r43 v40 d41 h42 =>
asI .i64 v40.2.2.2.2.2.1 fun x44 =>
asI .i64 v40.2.2.1 fun x45 =>
fB (ltI x44 x45) fun b46 =>
J.jn (fun v47 h48 =>
pickB (AV.bool b46) v47 (AV.bool false) fun b50 =>
br b50 (
ixK 1 v40.2.2.2.1 v40.2.2.2.2.2.1 fun p51 =>
ldI .u8 p51 h48 fun x52 =>
ixK 1 v40.1 v40.2.2.2.2.2.1 fun p53 =>
ldI .u8 p53 h48 fun x54 =>
fB (eqI x52 x54) fun b55 =>
asI .i64 v40.2.2.2.2.2.1 fun x56 =>
fI (wrapF .i64 (Int.add x56 (Int.ofNat 1))) fun x57 =>
r43 (v40.1, v40.2.1, v40.2.2.1, v40.2.2.2.1, (AV.bool b55), (AV.int .i64 x57), ()) d41 h48) (
asB v40.2.2.2.2.1 fun b58 =>
br b58 (
leaveK (gam J [(70, w70 c70)]) d41 h48 fun h59 =>
asI .u64 v40.2.1 fun x60 =>
asI .i64 v40.2.2.1 fun x61 =>
k x60 x61 (Int.ofNat 0) h59) (
asI .i64 v40.2.2.1 fun x62 =>
fI (wrapF .i64 (Int.add x62 (Int.ofNat 1))) fun x63 =>
r4 (v40.1, (AV.int .i64 x63), ()) d41 h48))) fun j49 =>
br b46 (
j49 v40.2.2.2.2.1 h42) (
j49 skipV h42)) (v19.1, v19.2.1, v19.2.2.1, v36, (AV.bool b39), (AV.int .i64 (Int.ofNat 0)), ()) d20 h34)) (v1.1, (AV.int .u64 (Int.ofNat 0)), v1.2.1, (AV.int .i64 x18), ()) d2 h12) (
leaveK (gam J [(70, w70 c70)]) d2 h12 fun h64 =>
k (Int.ofNat 0) (Int.ofNat 0) (Int.ofNat 5) h64)) fun j13 =>
br b7 (
asI .i64 v8 fun x14 =>
fB (Bool.not (ltI (Int.ofNat 10) x14)) fun b15 =>
j13 (AV.bool b15) h9) (
j13 skipV h9)) fun j10 =>
br b7 (
j10 v1.2.1 h3) (
j10 skipV h3)) (a0, (AV.int .i64 (Int.ofNat 1)), ()) [] h
noncomputable def s86 : AV → H → (Int → Int → Int → H → Prop) → Prop := s86G J0 s70
noncomputable def w86 (c : AV → H → (Int → Int → Int → H → Prop) → Prop) : Fun := fun xs h k => arg xs fun a0 xs => noArg xs <| c a0 h fun r0 r1 r2 h => k (.tuple [(.int .u64 r0), (.int .i64 r1), (.int .i64 r2)]) h
theorem s86_eq (J : Joins) (c70 : Int → H → (AV → H → Prop) → Prop) (a0 : AV) (h : H) (k : AV → H → Prop) : denF ty (gam J [(70, w70 c70)]) Try.f86 [a0] h k = s86G J c70 a0 h (fun r0 r1 r2 h => k (.tuple [(.int .u64 r0), (.int .i64 r1), (.int .i64 r2)]) h) := by kernel_rfl
noncomputable def g86 : Fun := w86 s86
theorem g86_ok : FunOk Try.prog 86 g86 := (fun_ok ty_ok mixed (gam_ok (J := J0) (tab_cons g70_ok (tab_nil fls_fun))) Try.func86 (fun args w => by simp)).imp fun xs h k e0 => by
  obtain ⟨a0, xs0, rfl, e1⟩ := arg_imp e0
  obtain ⟨rfl, e2⟩ := noArg_imp e1
  exact (s86_eq J0 s70 a0 h k).mpr e2
end Go.Proofs.Ytlbigopkplckaaa
