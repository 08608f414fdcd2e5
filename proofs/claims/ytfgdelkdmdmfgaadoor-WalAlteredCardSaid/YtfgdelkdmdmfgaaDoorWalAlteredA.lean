import Derived.Test.YtfgdelkdmdmfgaaDoorCards
import Derived.Test.YtfgdelkdmdmfgaaDoorKpU
import Derived.Test.YtfgdelkdmdmfgaaDoorLaW
import Derived.Test.YtfgdelkdmdmfgaaDoorLaV
import Derived.Lay
import Derived.LaidLaws
import Derived.MakeChecks
import Derived.SevenTiedAt
namespace Go.Proofs.YtfgdelkdmdmfgaaDoor
open Go Go.Am Go.ChangeShapes Go.WideShapes Go.ChangeAt Go.RowKit
set_option maxRecDepth 100000
set_option linter.all false
section
variable {H':Type} {enc:TypeId × Value→H'} {W:World} {base:Nat} {hd:Bool}
abbrev Tr' (enc:TypeId × Value→H') (W:World) (base:Nat) (hd:Bool) (fuel:Nat) (t:TypeId) (cs:List Value) (y:DataW H' × List MemPlace):Prop:=DataW.trod enc Tryd.prog W base (fun _=>true) hd fuel t cs=some y
theorem el_wr (fuel:Nat) (cs:List Value) (y:DataW H' × List MemPlace) (hl:cs.length=3) (h:Tr' enc W base hd fuel 48 cs y):∃ t:Wt,AV.relL J8 (wrc t) cs:=by
  match cs,hl with
  | [a, b, c], _ =>
    have c9:Tryd.prog.cellsOf 9=1:=by kernel_rfl
    have c4:Tryd.prog.cellsOf 4=1:=by kernel_rfl
    obtain ⟨f0,y0,h0,_⟩:=Uo Tryd.underlying48 h 0 rfl
    obtain ⟨f1,y1,h1,_⟩:=Uo Tryd.underlying48 h 1 rfl
    obtain ⟨f2,y2,h2,_⟩:=Uo Tryd.underlying48 h 2 rfl
    have h0:DataW.trod enc Tryd.prog W base (fun _=>true) hd f0 9 (([a,b,c].drop 0).take (Tryd.prog.cellsOf 9))=some y0:=h0
    have h1:DataW.trod enc Tryd.prog W base (fun _=>true) hd f1 9 (([a,b,c].drop 1).take (Tryd.prog.cellsOf 9))=some y1:=h1
    have h2:DataW.trod enc Tryd.prog W base (fun _=>true) hd f2 4 (([a,b,c].drop 2).take (Tryd.prog.cellsOf 4))=some y2:=h2
    rw [c9] at h0 h1
    rw [c4] at h2
    obtain ⟨s,rfl,_⟩:=Gd Tryd.underlying9 h0
    obtain ⟨s',rfl,_⟩:=Gd Tryd.underlying9 h1
    obtain ⟨d,rfl⟩:=trod_bool Tryd.underlying4 h2
    exact ⟨(s.data.toList,s'.data.toList,d),AV.relL_cons_cons.2 ⟨by simp only [AV.rel];exact ⟨s,rfl,rfl⟩,AV.relL_cons_cons.2 ⟨by simp only [AV.rel];exact ⟨s',rfl,rfl⟩,AV.relL_cons_cons.2 ⟨by simp only [AV.rel],AV.relL_nil.2 rfl⟩⟩⟩⟩
def LiT (h:H) (e:Lw):Prop:=RowP wrc 3 h e.1 e.2∧e.2.length≤140737488351232
theorem el_life {ws:List Nat} (hw:∀ x∈ws,x≤reachBytes) (b0 o0:Nat) (tt0:TypeId) (ccs0:Array Value) (fr0:Nat × Nat) (fuel:Nat) (cs:List Value) (y:DataW H' × List MemPlace) (hb0:W.heap[b0]?=some (.cells ccs0 tt0 fr0)) (ho0:o0≤ccs0.size) (hl:cs.length=1) (h:Tr' enc W base hd fuel 34 cs y) (hws:∀ q∈y.1.weights Tryd.prog 34,q∈ws):∃ x:Qac Lw,ElOk W lwc LiT cs x:=by
  match cs,hl with
  | [v0], _ =>
    obtain ⟨q,mk,l,g1,g2,g3,g4,g5⟩:=flat_in (f:=wrc) hb0 ho0 Tryd.underlying34 (by kernel_rfl) (by decide) Js h el_wr
    have hlen:l.length≤140737488351232:=by
      have:=g5 reachBytes fun x hx=>hw _ (hws _ hx)
      have e:Tryd.prog.bytesOf 48=40:=by kernel_rfl
      rw [e] at this
      have e2:reachBytes=140737488351232:=rfl
      omega
    exact ⟨(q,fun id=>(mk id,l)),g1,fun id μ hμ=>AV.relL_cons_cons.2 ⟨g3 id μ hμ,AV.relL_nil.2 rfl⟩,fun id h hg hn'=>⟨.of (g4 id h hg hn'),hlen⟩⟩
theorem u32_in {n:Int} (h:(Lit.int .u32 n).wf=true):∃ m:Nat,n=Int.ofNat m∧m < 4294967296:=by
  simp [Lit.wf,IntKind.min,IntKind.max,IntKind.signed,IntKind.bits] at h
  exact ⟨n.toNat,by show n=((n.toNat:Nat):Int);omega,by omega⟩
end
set_option maxHeartbeats 4000000 in
theorem law_lifted (os:Os) (started:os.Started) (H:Type) (enc:TypeId × Value→H) :
    ReturnsInHanded {} Tryd.checked os 3 .any (fun w args=>(Rows.walAlteredSpec.pre enc Tryd.prog Tryd.f3 Rows.walAlteredRow.domain false w args∧laidMetH Tryd.prog Rows.walAlteredRow.laid w)∧sizedMet enc Tryd.prog Tryd.f3 (OpenSpec.ofChange Rows.walAlteredSpec) false w args) (Rows.walAlteredSpec.post enc Tryd.prog Tryd.f3 false true false false):=by
  refine returnsInHanded_of_change_and (C:=Tryd.checked) (X:=fun w _=>laidMetH Tryd.prog Rows.walAlteredRow.laid w) (fun _ _ _ hh h=>h.of_heap hh) Tryd.own started (by kernel_rfl) Tryd.func3
    (ChangeSpec.witness_shaped (enc:=enc) (C:=Tryd.checked) (X:=fun w _=>laidMetH Tryd.prog Rows.walAlteredRow.laid w) false (World.laidAll Tryd.prog os Rows.walAlteredRow.laid) #[.slice none 0 0,.int .i64 0,.int .i64 0,.int .u32 0] 8 (World.laidAll_os _ _ _) (World.shaped_of_ZipB (wit_z os) (wit_r os)) (wit_o os) (wit_p enc os) (wit_s enc os)
      (by rw [MakeChecks.laidMetH_plain _ _ _ wit_n];exact laidMet_laidAll _ (wit_f os) (wit_i os))) ?_
  intro W base args ds gs before hval0 hW _ hwt hL _
  have hW':=hW
  obtain ⟨p,q,hA,hV,rfl,hfz,hnd⟩:=hW
  rw [Tryd.params3] at hA hval0
  obtain ⟨v0,vs0,d0,ds0,p0,q0,e0,rfl,rfl,h0,hA⟩:=trodAll_cons hA
  obtain ⟨v1,vs1,d1,ds1,p1,q1,rfl,rfl,rfl,h1,hA⟩:=trodAll_cons hA
  obtain ⟨v2,vs2,d2,ds2,p2,q2,rfl,rfl,rfl,h2,hA⟩:=trodAll_cons hA
  obtain ⟨v3,vs3,d3,ds3,p3,q3,rfl,rfl,rfl,h3,hA⟩:=trodAll_cons hA
  obtain ⟨rfl,rfl,rfl⟩:=trodAll_nil hA
  obtain ⟨rfl,rfl⟩:=trodVars_none hV
  obtain rfl:args=#[v0,v1,v2,v3]:=Array.toList_inj.1 e0
  obtain ⟨x1,rfl⟩:=okWide_int Tryd.underlying3 (hval0 1 3 v1 rfl rfl)
  obtain ⟨x2,rfl⟩:=okWide_int Tryd.underlying3 (hval0 2 3 v2 rfl rfl)
  obtain ⟨fuel3,ht3⟩:=h3
  obtain ⟨m3,rfl⟩:=okWide_int Tryd.underlying23 (hval0 3 23 v3 rfl rfl)
  obtain ⟨n3,en3,hn3⟩:=trod_intw Tryd.underlying23 (show DataW.trod enc Tryd.prog W 0 (fun _=>true) true fuel3 23 [.int .u32 m3]=some (d3,p3) from ht3)
  injection en3 with _ en3
  subst en3
  obtain ⟨bits,rfl,hbits⟩:=u32_in hn3
  obtain ⟨fuel0,ht0⟩:=h0
  have hwe:∀ x∈d0.weights Tryd.prog 22,x≤reachBytes:=fun x hx=>by
    rw [Tryd.params3] at hwt
    have:=List.all_eq_true.1 hwt x (List.mem_append_left _ hx)
    simpa using this
  have hok1:Value.okWide Tryd.prog W .any base 22 v0:=hval0 0 22 v0 rfl rfl
  have hok1':=hok1
  obtain ⟨sa1,sl1,sc1,rfl⟩:=okWide_slice Tryd.underlying22 hok1
  have okB:Cell.okWide Tryd.prog W .any base 22 (.slice sa1 sl1 sc1):=by simpa only [Value.okWide,Tryd.underlying22] using hok1'
  obtain ⟨rs,a,L,pk,wt⟩:=nest_in (f:=lwc) (Tb:=LiT) okB Tryd.underlying22 (by kernel_rfl) (by decide) Qdf (show DataW.trod enc Tryd.prog W 0 (fun _=>true) true fuel0 22 [.slice sa1 sl1 sc1]=some (d0,p0) from ht0) (el_life hwe) 4
  have lenL:L.length≤140737488351232:=by
    have:=wt reachBytes hwe
    have e:Tryd.prog.bytesOf 34=24:=by kernel_rfl
    rw [e] at this
    have e2:reachBytes=140737488351232:=rfl
    omega
  have hlen:∀ ts us,(Ym Tryd.prog Rows.walAlteredRow.laid ts us).length=4:=fun ts us=>by unfold Ym;rw [List.length_map,List.length_range];kernel_rfl
  have fits:∀ ts us,Fits (Xw (Ym Tryd.prog Rows.walAlteredRow.laid ts us) rs W) W 4 rs:=fun ts us=>by
    have:=Fits.of (Ym Tryd.prog Rows.walAlteredRow.laid ts us) rs W
    rw [hlen] at this;exact this
  obtain ⟨ts,us,hR,hb⟩:=rel_laidGm hL wit_h (rs:=rs) fun ts us i r e=>pk.good _ (fits ts us) i r e
  have laid:LaidH (Hg (Ym Tryd.prog Rows.walAlteredRow.laid ts us++rs.map Wx)) 4 rs:=by
    have:=LaidH.of (Ym Tryd.prog Rows.walAlteredRow.laid ts us) rs
    rw [hlen] at this;exact this
  have hnext:(Hg (Ym Tryd.prog Rows.walAlteredRow.laid ts us++rs.map Wx)).next=4+rs.length:=by
    show (Ym Tryd.prog Rows.walAlteredRow.laid ts us++rs.map Wx).length=_
    rw [List.length_append,hlen,List.length_map]
  have hbase:(Hg (Ym Tryd.prog Rows.walAlteredRow.laid ts us++rs.map Wx)).base=4+rs.length:=by
    show (Ym Tryd.prog Rows.walAlteredRow.laid ts us++rs.map Wx).length=_
    rw [List.length_append,hlen,List.length_map]
  have hsub:Sub (JV ts us) (Hg (Ym Tryd.prog Rows.walAlteredRow.laid ts us++rs.map Wx)):=by
    refine ⟨rfl,by rw [hbase];show 4≤4+rs.length;omega,fun id hid=>?_⟩
    have hid:id < 4:=hid
    rw [← hg_is,Qfq,Xe,hlen,if_pos hid]
  obtain ⟨ra,rl⟩:=pk.told _ laid
  have main:Calls Tryd.prog 3 #[.slice sa1 sl1 sc1,.int .i64 x1,.int .i64 x2,.int .u32 (Int.ofNat bits)] W fun e W'=>e=.returned (.bool true)∧Below W.heap.size W W' :=
    law (q3_ok Qd1 q4_ok) (fun args w=>by simp) («as»:=[a,.int .i64 x1,.int .i64 x2,.int .u32 (Int.ofNat bits)])
      (w3_of (ts:=ts) (us:=us) hsub ra rl (by rw [hnext,hbase];exact Nat.le_refl _) lenL hbits) hb hR
      (AV.relL_cons_cons.2 ⟨pk.rel _ (fits ts us),AV.relL_cons_cons.2 ⟨by simp only [AV.rel],AV.relL_cons_cons.2 ⟨by simp only [AV.rel],AV.relL_cons_cons.2 ⟨by simp only [AV.rel],AV.relL_nil.2 rfl⟩⟩⟩⟩)
  refine main.mono fun e W' ⟨he,hbb⟩=>?_
  subst he
  exact ⟨_,rfl,post_of_below rfl Tryd.laidOut (pars_ok (by rw [Tryd.params3];kernel_rfl)) hW' hbb rfl rfl (fun b sp hd=>bool_res (t:=4) (by kernel_rfl) Tryd.underlying4 true b sp hd)⟩
end Go.Proofs.YtfgdelkdmdmfgaaDoor
