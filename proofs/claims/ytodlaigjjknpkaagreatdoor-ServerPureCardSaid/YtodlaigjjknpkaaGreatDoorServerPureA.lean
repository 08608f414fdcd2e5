import Derived.Test.YtodlaigjjknpkaaGreatDoorCards
import Derived.Test.YtodlaigjjknpkaaGreatDoorSvT
import Derived.Test.YtodlaigjjknpkaaGreatDoorSvU
import Derived.Test.YtodlaigjjknpkaaGreatDoorPureR
import Derived.Test.YtodlaigjjknpkaaGreatDoorPureW
import Derived.Test.YtodlaigjjknpkaaGreatDoorPureQ
import Derived.Lay
import Derived.LaidLaws
import Derived.MakeChecks
import Derived.SevenTiedAt
namespace Go.Proofs.YtodlaigjjknpkaaGreatDoor
open Go Go.Am Go.ChangeShapes Go.WideShapes Go.ChangeAt Go.RowKit
set_option maxRecDepth 100000
set_option linter.all false
set_option maxHeartbeats 4000000 in
theorem law_lifted (os : Os) (started : os.Started) (H : Type) (enc : TypeId × Value→H) :
    ReturnsInHanded {} Tryz.checked os 3 .any (fun w args=>(Rows.serverPureSpec.pre enc Tryz.prog Tryz.f3 Rows.serverPureRow.domain false w args ∧ laidMetH Tryz.prog Rows.serverPureRow.laid w) ∧ sizedMet enc Tryz.prog Tryz.f3 (OpenSpec.ofChange Rows.serverPureSpec) false w args) (Rows.serverPureSpec.post enc Tryz.prog Tryz.f3 false true false false):=by
  refine returnsInHanded_of_change_and (C:=Tryz.checked) (X:=fun w _=>laidMetH Tryz.prog Rows.serverPureRow.laid w) (fun _ _ _ hh h=>h.of_heap hh) Tryz.own started (by kernel_rfl) Tryz.func3
    (ChangeSpec.witness_shaped (enc:=enc) (C:=Tryz.checked) (X:=fun w _=>laidMetH Tryz.prog Rows.serverPureRow.laid w) false (World.laidAll Tryz.prog os Rows.serverPureRow.laid) #[.agg #[.int .i64 0,.slice none 0 0,.int .i64 0,.int .i64 0,.int .i64 0,.slice none 0 0,.int .i64 0,.int .i64 0,.int .i64 0,.int .i64 0],.agg #[.int .i64 0,.int .i64 0,.int .i64 0,.int .i32 0,.int .i32 0,.int .i64 0,.int .i32 0,.int .i32 0,.int .i64 0,.int .i32 0,.int .i32 0,.int .i64 0,.int .i32 0,.int .i32 0,.string ⟨#[]⟩,.string ⟨#[]⟩,.string ⟨#[]⟩,.int .i64 0,.int .i32 0,.int .i32 0,.int .i64 0,.int .i32 0,.int .i32 0,.int .i64 0,.int .i32 0,.int .i32 0,.slice none 0 0,.slice none 0 0,.bool false,.bool false,.int .i32 0,.int .i32 0,.int .u8 0,.int .i64 0,.int .i32 0,.int .i32 0,.slice none 0 0,.int .i64 0,.int .i64 0,.int .i32 0,.int .i32 0,.slice none 0 0]] 8 (World.laidAll_os _ _ _) (World.shaped_of_ZipB (wit_z os) (wit_r os)) (wit_o os) (wit_p enc os) (wit_s enc os)
      (by rw [MakeChecks.laidMetH_plain _ _ _ wit_n]; exact laidMet_laidAll _ (wit_f os) (wit_i os))) ?_
  intro W base args ds gs before hval0 hW _ hwt hL _
  have hW':=hW
  obtain ⟨p,q,hA,hV,rfl,hfz,hnd⟩:=hW
  rw [Tryz.params3] at hA hval0
  obtain ⟨v0,vs0,d0,ds0,p0,q0,e0,rfl,rfl,h0,hA⟩:=trodAll_cons hA
  obtain ⟨v1,vs1,d1,ds1,p1,q1,rfl,rfl,rfl,h1,hA⟩:=trodAll_cons hA
  obtain ⟨rfl,rfl,rfl⟩:=trodAll_nil hA
  obtain ⟨rfl,rfl⟩:=trodVars_none hV
  obtain rfl : args = #[v0,v1]:=Array.toList_inj.1 e0
  have r0:=Gf (μ:=YF) (ts:=[3,22,2,2,2,23,3,3,3,3]) Tryz.underlying27 (by kernel_rfl) (by kernel_rfl) (hval0 0 27 v0 rfl rfl)
  obtain ⟨as0,cs0,hs0,rfl,hr0,hok0⟩:=r0
  obtain ⟨x0,x1,x2,x3,x4,x5,x6,x7,rfl⟩:=shape0 hs0
  have r1:=Gf (μ:=YF) (ts:=[2,3,2,21,21,3,21,21,2,21,21,2,21,21,9,9,9,2,21,21,2,21,21,2,21,21,22,34,4,4,21,21,35,2,21,21,22,2,2,21,21,38]) Tryz.underlying40 (by kernel_rfl) (by kernel_rfl) (hval0 1 40 v1 rfl rfl)
  obtain ⟨as1,cs1,hs1,rfl,hr1,hok1⟩:=r1
  obtain ⟨x8,x9,x10,x11,x12,x13,x14,x15,x16,x17,x18,x19,x20,x21,x22,x23,x24,x25,x26,x27,x28,x29,x30,x31,x32,x33,x34,x35,x36,x37,x38,x39,x40,x41,x42,x43,x44,x45,rfl⟩:=shape1 hs1
  obtain ⟨fuel0,ht0⟩:=h0
  obtain ⟨fuel1,ht1⟩:=h1
  have hwe : ∀ x ∈ d0.weights Tryz.prog 27,x ≤ reachBytes:=fun x hx=>by
    rw [Tryz.params3] at hwt
    have:=List.all_eq_true.1 hwt x (List.mem_append_left _ hx)
    simpa using this
  obtain ⟨cA,hcA,_⟩:=(relL_get hr0).2 1 .junk rfl
  obtain ⟨fA,yA,htA,hwA⟩:=Zb Tryz.underlying27 ht0 1 rfl
  have htA : DataW.trod enc Tryz.prog W 0 (fun _=>true) true fA 22 ((cs0.toList.drop 1).take (Tryz.prog.cellsOf 22)) = some yA:=htA
  rw [show Tryz.prog.cellsOf 22 = 1 from by kernel_rfl,Nv hcA] at htA
  have okA : Cell.okWide Tryz.prog W .any base 22 cA:=by
    obtain ⟨u,hu,hok⟩:=hok0 1 cA hcA
    injection hu with hu; subst hu; exact hok
  obtain ⟨lA,inA,wtA⟩:=Vd (f:=UU) Tryz.underlying22 (by kernel_rfl) (by decide) (fun _=>rfl) QaR okA htA
  obtain ⟨qA,fitA,pkA⟩:=inA.pack
  obtain ⟨cB,hcB,_⟩:=(relL_get hr0).2 5 .junk rfl
  obtain ⟨fB,yB,htB,hwB⟩:=Zb Tryz.underlying27 ht0 5 rfl
  have htB : DataW.trod enc Tryz.prog W 0 (fun _=>true) true fB 25 ((cs0.toList.drop 5).take (Tryz.prog.cellsOf 25)) = some yB:=htB
  rw [show Tryz.prog.cellsOf 25 = 5 from by kernel_rfl] at htB
  obtain ⟨gB,zB,huB,hxB⟩:=Zb Tryz.underlying25 htB 0 rfl
  have huB : DataW.trod enc Tryz.prog W 0 (fun _=>true) true gB 23 ((((cs0.toList.drop 5).take 5).drop 0).take (Tryz.prog.cellsOf 23)) = some zB:=huB
  rw [show Tryz.prog.cellsOf 23 = 1 from by kernel_rfl,QdC (i:=0) hcB (by decide)] at huB
  have okB : Cell.okWide Tryz.prog W .any base 23 cB:=by
    obtain ⟨u,hu,hok⟩:=hok0 5 cB hcB
    injection hu with hu; subst hu; exact hok
  obtain ⟨lB,inB,wtB⟩:=Vd (f:=KG) Tryz.underlying23 (by kernel_rfl) (by decide) (fun _=>rfl) el_int okB huB
  obtain ⟨qB,fitB,pkB⟩:=inB.pack
  obtain ⟨cD,hcD,_⟩:=(relL_get hr1).2 26 .junk rfl
  obtain ⟨fD,yD,htD,hwD⟩:=Zb Tryz.underlying40 ht1 12 rfl
  have htD : DataW.trod enc Tryz.prog W 0 (fun _=>true) true fD 22 ((cs1.toList.drop 26).take (Tryz.prog.cellsOf 22)) = some yD:=htD
  rw [show Tryz.prog.cellsOf 22 = 1 from by kernel_rfl,Nv hcD] at htD
  have okD : Cell.okWide Tryz.prog W .any base 22 cD:=by
    obtain ⟨u,hu,hok⟩:=hok1 26 cD hcD
    injection hu with hu; subst hu; exact hok
  obtain ⟨lD,inD,wtD⟩:=Vd (f:=UU) Tryz.underlying22 (by kernel_rfl) (by decide) (fun _=>rfl) QaR okD htD
  obtain ⟨qD,fitD,pkD⟩:=inD.pack
  obtain ⟨cE,hcE,_⟩:=(relL_get hr1).2 27 .junk rfl
  obtain ⟨fE,yE,htE,hwE⟩:=Zb Tryz.underlying40 ht1 13 rfl
  have htE : DataW.trod enc Tryz.prog W 0 (fun _=>true) true fE 34 ((cs1.toList.drop 27).take (Tryz.prog.cellsOf 34)) = some yE:=htE
  rw [show Tryz.prog.cellsOf 34 = 1 from by kernel_rfl,Nv hcE] at htE
  have okE : Cell.okWide Tryz.prog W .any base 34 cE:=by
    obtain ⟨u,hu,hok⟩:=hok1 27 cE hcE
    injection hu with hu; subst hu; exact hok
  obtain ⟨lE,inE,wtE⟩:=Vd (f:=wrc) Tryz.underlying34 (by kernel_rfl) (by decide) (fun _=>rfl) el_wr okE htE
  obtain ⟨qE,fitE,pkE⟩:=inE.pack
  obtain ⟨cF,hcF,_⟩:=(relL_get hr1).2 36 .junk rfl
  obtain ⟨fF,yF,htF,hwF⟩:=Zb Tryz.underlying40 ht1 16 rfl
  have htF : DataW.trod enc Tryz.prog W 0 (fun _=>true) true fF 37 ((cs1.toList.drop 30).take (Tryz.prog.cellsOf 37)) = some yF:=htF
  rw [show Tryz.prog.cellsOf 37 = 11 from by kernel_rfl] at htF
  obtain ⟨gF,zF,huF,hxF⟩:=Zb Tryz.underlying37 htF 3 rfl
  have huF : DataW.trod enc Tryz.prog W 0 (fun _=>true) true gF 22 ((((cs1.toList.drop 30).take 11).drop 6).take (Tryz.prog.cellsOf 22)) = some zF:=huF
  rw [show Tryz.prog.cellsOf 22 = 1 from by kernel_rfl,QdC (i:=6) hcF (by decide)] at huF
  have okF : Cell.okWide Tryz.prog W .any base 22 cF:=by
    obtain ⟨u,hu,hok⟩:=hok1 36 cF hcF
    injection hu with hu; subst hu; exact hok
  obtain ⟨lF,inF,wtF⟩:=Vd (f:=UU) Tryz.underlying22 (by kernel_rfl) (by decide) (fun _=>rfl) QaR okF huF
  obtain ⟨qF,fitF,pkF⟩:=inF.pack
  obtain ⟨cG,hcG,_⟩:=(relL_get hr1).2 41 .junk rfl
  obtain ⟨fG,yG,htG,hwG⟩:=Zb Tryz.underlying40 ht1 17 rfl
  have htG : DataW.trod enc Tryz.prog W 0 (fun _=>true) true fG 38 ((cs1.toList.drop 41).take (Tryz.prog.cellsOf 38)) = some yG:=htG
  rw [show Tryz.prog.cellsOf 38 = 1 from by kernel_rfl,Nv hcG] at htG
  have okG : Cell.okWide Tryz.prog W .any base 38 cG:=by
    obtain ⟨u,hu,hok⟩:=hok1 41 cG hcG
    injection hu with hu; subst hu; exact hok
  obtain ⟨lG,inG,wtG⟩:=Vd (f:=No) Tryz.underlying38 (by kernel_rfl) (by decide) (fun _=>rfl) el_txn okG htG
  obtain ⟨qG,fitG,pkG⟩:=inG.pack
  have hroom:=reach_room (wtB reachBytes fun x hx=>hwe x (hwB x (hxB x hx)))
  have hfit : ∀ (i : Nat) (r : YW),[qA,qB,qD,qE,qF,qG][i]? = some (some r)→Ds W r:=by
    intro i r e
    match i,e with
    | 0,e=>injection e with e; exact fitA r e
    | 1,e=>injection e with e; exact fitB r e
    | 2,e=>injection e with e; exact fitD r e
    | 3,e=>injection e with e; exact fitE r e
    | 4,e=>injection e with e; exact fitF r e
    | 5,e=>injection e with e; exact fitG r e
    | i + 6,e=>simp at e
  obtain ⟨ts,us,hR,hb⟩:=rel_laidIn hL wit_h (rs:=[qA,qB,qD,qE,qF,qG]) hfit
  have hlen : (ZR Tryz.prog Rows.serverPureRow.laid ts us).length = 6:=by unfold ZR; rw [List.length_map,List.length_range]; kernel_rfl
  have hrow : ∀ (i : Nat) (q : Option YW),[qA,qB,qD,qE,qF,qG][i]? = some q→∀ r,q = some r→KW (ZR Tryz.prog Rows.serverPureRow.laid ts us) [qA,qB,qD,qE,qF,qG] W (6 + i) = some (r.1,r.2.1) ∧ (KW (ZR Tryz.prog Rows.serverPureRow.laid ts us) [qA,qB,qD,qE,qF,qG] W).sz (6 + i) = Y5 W r.1:=fun i q e r hr=>by
    subst hr
    have:=DS (gs:=ZR Tryz.prog Rows.serverPureRow.laid ts us) (W:=W) e
    rw [hlen] at this; exact this
  have hget : ∀ (i : Nat) (q : Option YW),[qA,qB,qD,qE,qF,qG][i]? = some q→(Hg (ZR Tryz.prog Rows.serverPureRow.laid ts us ++ [qA,qB,qD,qE,qF,qG].map Ws)).get (6 + i) = Ws q:=fun i q e=>by
    rw [JS,hlen,if_neg (by omega),Nat.add_sub_cancel_left,List.getD_eq_getElem?_getD,e]; rfl
  have hnext : (Hg (ZR Tryz.prog Rows.serverPureRow.laid ts us ++ [qA,qB,qD,qE,qF,qG].map Ws)).next = 12:=by
    show (ZR Tryz.prog Rows.serverPureRow.laid ts us ++ [qA,qB,qD,qE,qF,qG].map Ws).length = 12
    rw [List.length_append,hlen]; rfl
  have hbase : (Hg (ZR Tryz.prog Rows.serverPureRow.laid ts us ++ [qA,qB,qD,qE,qF,qG].map Ws)).base = 12:=by
    show (ZR Tryz.prog Rows.serverPureRow.laid ts us ++ [qA,qB,qD,qE,qF,qG].map Ws).length = 12
    rw [List.length_append,hlen]; rfl
  have hsub : Sub (JT ts us) (Hg (ZR Tryz.prog Rows.serverPureRow.laid ts us ++ [qA,qB,qD,qE,qF,qG].map Ws)):=by
    refine ⟨rfl,by rw [hbase]; show 6 ≤ 12; decide,fun id hid=>?_⟩
    have hid : id < 6:=hid
    rw [← hg_is,Qf1,JS,hlen,if_pos hid]
  obtain ⟨aA,relA,rowA,capA⟩:=pkA (6 + 0)
  obtain ⟨aB,relB,rowB,capB⟩:=pkB (6 + 1)
  obtain ⟨aD,relD,rowD,capD⟩:=pkD (6 + 2)
  obtain ⟨aE,relE,rowE,capE⟩:=pkE (6 + 3)
  obtain ⟨aF,relF,rowF,capF⟩:=pkF (6 + 4)
  obtain ⟨aG,relG,rowG,capG⟩:=pkG (6 + 5)
  generalize hH : Hg (ZR Tryz.prog Rows.serverPureRow.laid ts us ++ [qA,qB,qD,qE,qF,qG].map Ws) = hI at hR hb hget hnext hbase hsub
  generalize hM : KW (ZR Tryz.prog Rows.serverPureRow.laid ts us) [qA,qB,qD,qE,qF,qG] W = μ at hR hb hrow
  have hc : CfgIn hI { nodes:=x0,off:=x1,exp:=x2,lease:=x3,per:=x4,bits:=x5,top:=x6,most:=x7,vs:=aA,vh:=aB,ks:=lA,hs:=lB }:=⟨rowA hI (hget 0 qA rfl) (by rw [hnext]; decide),rowB hI (hget 1 qB rfl) (by rw [hnext]; decide),hroom⟩
  have hx : AskRows hI { id:=x8,from_:=x9,nw:=x10,nl:=x11,nt:=x12,kind:=x13,n:=x14,m:=x15,bw:=x16,bl:=x17,bt:=x18,mw:=x19,ml:=x20,mt:=x21,anchor:=x22,fr:=x23,to:=x24,w:=x25,l:=x26,t:=x27,lw:=x28,ll:=x29,lt:=x30,tw:=x31,tl:=x32,tt:=x33,reads:=x34,whole:=x35,rn:=x36,rm:=x37,rst:=x38,rw:=x39,rl:=x40,rt:=x41,beat:=x42,pw:=x43,pl:=x44,pt:=x45,vk:=aD,vw:=aE,vr:=aF,vn:=aG,keys:=lD,wrs:=lE,rkeys:=lF,known:=lG }:=⟨rowD hI (hget 2 qD rfl) (by rw [hnext]; decide),rowE hI (hget 3 qE rfl) (by rw [hnext]; decide),rowF hI (hget 4 qF rfl) (by rw [hnext]; decide),rowG hI (hget 5 qG rfl) (by rw [hnext]; decide),capD⟩
  have up : ∀ {ls : List AV} {vs : Array Value},AV.relL YF ls vs.toList→AV.relL μ ls vs.toList:=fun {ls vs} h=>by
    have h1 : AV.rel YF (.agg ls) (.agg vs):=by simp only [AV.rel]; exact ⟨vs,rfl,h⟩
    have h2:=AV.rel_mono (μ':=μ) (fun _ _ h=>by cases h) (.agg ls) (.agg vs) h1
    simp only [AV.rel] at h2
    obtain ⟨vs',e,h3⟩:=h2
    injection e with e; subst e; exact h3
  have sa : ∀ {q : Option YW} {a : AV} {v v' : Value} (i : Nat),[qA,qB,qD,qE,qF,qG][i]? = some q→(∀ μ : Mu,(∀ r,q = some r→μ (6 + i) = some (r.1,r.2.1) ∧ μ.sz (6 + i) = Y5 W r.1)→AV.rel μ a v)→v' = v→AV.rel μ a v':=fun i e h ev=>by
    subst ev; exact h μ (hrow i _ e)
  have ra0 : AV.rel μ (.agg (QG { nodes:=x0,off:=x1,exp:=x2,lease:=x3,per:=x4,bits:=x5,top:=x6,most:=x7,vs:=aA,vh:=aB,ks:=lA,hs:=lB })) (.agg cs0):=by
    simp only [AV.rel]
    exact ⟨cs0,rfl,Wy 5 (Wy 1 (up hr0) fun v hv=>sa 0 rfl relA (by rw [hcA] at hv; injection hv with hv; exact hv.symm)) fun v hv=>sa 1 rfl relB (by rw [hcB] at hv; injection hv with hv; exact hv.symm)⟩
  have ra1 : AV.rel μ (.agg (Qx { id:=x8,from_:=x9,nw:=x10,nl:=x11,nt:=x12,kind:=x13,n:=x14,m:=x15,bw:=x16,bl:=x17,bt:=x18,mw:=x19,ml:=x20,mt:=x21,anchor:=x22,fr:=x23,to:=x24,w:=x25,l:=x26,t:=x27,lw:=x28,ll:=x29,lt:=x30,tw:=x31,tl:=x32,tt:=x33,reads:=x34,whole:=x35,rn:=x36,rm:=x37,rst:=x38,rw:=x39,rl:=x40,rt:=x41,beat:=x42,pw:=x43,pl:=x44,pt:=x45,vk:=aD,vw:=aE,vr:=aF,vn:=aG,keys:=lD,wrs:=lE,rkeys:=lF,known:=lG })) (.agg cs1):=by
    simp only [AV.rel]
    exact ⟨cs1,rfl,Wy 41 (Wy 36 (Wy 27 (Wy 26 (up hr1) fun v hv=>sa 2 rfl relD (by rw [hcD] at hv; injection hv with hv; exact hv.symm)) fun v hv=>sa 3 rfl relE (by rw [hcE] at hv; injection hv with hv; exact hv.symm))
      fun v hv=>sa 4 rfl relF (by rw [hcF] at hv; injection hv with hv; exact hv.symm)) fun v hv=>sa 5 rfl relG (by rw [hcG] at hv; injection hv with hv; exact hv.symm)⟩
  have main : Calls Tryz.prog 3 #[.agg cs0,.agg cs1] W fun e W'=>e = .returned (.bool true) ∧ Below W.heap.size W W' :=
    law q3_ok (fun args w=>by simp) («as»:=[.agg (QG { nodes:=x0,off:=x1,exp:=x2,lease:=x3,per:=x4,bits:=x5,top:=x6,most:=x7,vs:=aA,vh:=aB,ks:=lA,hs:=lB }),.agg (Qx { id:=x8,from_:=x9,nw:=x10,nl:=x11,nt:=x12,kind:=x13,n:=x14,m:=x15,bw:=x16,bl:=x17,bt:=x18,mw:=x19,ml:=x20,mt:=x21,anchor:=x22,fr:=x23,to:=x24,w:=x25,l:=x26,t:=x27,lw:=x28,ll:=x29,lt:=x30,tw:=x31,tl:=x32,tt:=x33,reads:=x34,whole:=x35,rn:=x36,rm:=x37,rst:=x38,rw:=x39,rl:=x40,rt:=x41,beat:=x42,pw:=x43,pl:=x44,pt:=x45,vk:=aD,vw:=aE,vr:=aF,vn:=aG,keys:=lD,wrs:=lE,rkeys:=lF,known:=lG })])
      (show f3 _ _ hI _ from t3 Qf0 hc hx (by rw [hnext,hbase]; exact Nat.le_refl _) (fun h' lo=>⟨ts,us,hsub.low lo (by rw [hnext]; show 6 ≤ 12; decide)⟩) fun h'=>rfl) hb hR
      (AV.relL_cons_cons.2 ⟨ra0,AV.relL_cons_cons.2 ⟨ra1,AV.relL_nil.2 rfl⟩⟩)
  refine main.mono fun e W' ⟨he,hbb⟩=>?_
  subst he
  exact ⟨_,rfl,post_of_below rfl Tryz.laidOut (pars_ok (by rw [Tryz.params3]; kernel_rfl)) hW' hbb rfl rfl (fun b sp hd=>bool_res (t:=4) (by kernel_rfl) Tryz.underlying4 true b sp hd)⟩
end Go.Proofs.YtodlaigjjknpkaaGreatDoor
