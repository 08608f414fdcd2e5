import Derived.Test.YtfgdelkdmdmfgaaDoorAmS2
import Derived.Test.YtfgdelkdmdmfgaaDoorLaO
import Derived.Test.YtfgdelkdmdmfgaaDoorAmL7
namespace Go.Proofs.YtfgdelkdmdmfgaaDoor
open Go Go.Am
set_option maxRecDepth 100000
set_option linter.all false
def JV (ts us:Nat→Nat):H:=⟨(.nd (.cells false (ts 0) [.int .u64 1,.int .u64 10,.int .u64 100,.int .u64 1000,.int .u64 10000,.int .u64 100000,.int .u64 1000000,.int .u64 10000000,.int .u64 100000000,.int .u64 1000000000,.int .u64 10000000000,.int .u64 100000000000,.int .u64 1000000000000,.int .u64 10000000000000,.int .u64 100000000000000,.int .u64 1000000000000000,.int .u64 10000000000000000,.int .u64 100000000000000000,.int .u64 1000000000000000000,.int .u64 10000000000000000000]) (.nd .dead (.nd (.cells false (ts 3) [.int .u8 0,.int .u8 1,.int .u8 56,.int .u8 2,.int .u8 57,.int .u8 49,.int .u8 28,.int .u8 3,.int .u8 61,.int .u8 58,.int .u8 42,.int .u8 50,.int .u8 38,.int .u8 29,.int .u8 17,.int .u8 4,.int .u8 62,.int .u8 47,.int .u8 59,.int .u8 36,.int .u8 45,.int .u8 43,.int .u8 51,.int .u8 22,.int .u8 53,.int .u8 39,.int .u8 33,.int .u8 30,.int .u8 24,.int .u8 18,.int .u8 12,.int .u8 5,.int .u8 63,.int .u8 55,.int .u8 48,.int .u8 27,.int .u8 60,.int .u8 41,.int .u8 37,.int .u8 16,.int .u8 46,.int .u8 35,.int .u8 44,.int .u8 21,.int .u8 52,.int .u8 32,.int .u8 23,.int .u8 11,.int .u8 54,.int .u8 26,.int .u8 40,.int .u8 15,.int .u8 34,.int .u8 20,.int .u8 31,.int .u8 10,.int .u8 25,.int .u8 14,.int .u8 19,.int .u8 9,.int .u8 13,.int .u8 8,.int .u8 7,.int .u8 6]) .lf .lf) .lf) (.nd (.cells false (ts 2) [.int .u8 0,.int .u8 1,.int .u8 28,.int .u8 2,.int .u8 29,.int .u8 14,.int .u8 24,.int .u8 3,.int .u8 30,.int .u8 22,.int .u8 20,.int .u8 15,.int .u8 25,.int .u8 17,.int .u8 4,.int .u8 8,.int .u8 31,.int .u8 27,.int .u8 13,.int .u8 23,.int .u8 21,.int .u8 19,.int .u8 16,.int .u8 7,.int .u8 26,.int .u8 12,.int .u8 18,.int .u8 6,.int .u8 11,.int .u8 5,.int .u8 10,.int .u8 9]) .lf .lf)),4,4⟩
theorem lives_run (ts us:Nat→Nat) (K:AV→Prop):K (.bool true)=g4 [] (JV ts us) fun r _=>K r:=by kernel_rfl
end Go.Proofs.YtfgdelkdmdmfgaaDoor
namespace Go.Proofs.YtfgdelkdmdmfgaaDoor
open Go Go.Am
set_option maxRecDepth 100000
set_option linter.all false
mutual
theorem flat_under:∀ (n:Nat) (a:AV),a.flat=true→a.under n
  | n,.bool _,_ | n,.int _ _,_ | n,.str _,_ | n,.nilp,_ | n,.nils,_ | n,.nilm,_ | n,.nilf,_ | n,.nili,_ | n,.junk,_=>by simp [AV.under]
  | n,.agg cs,h | n,.tuple cs,h=>by simp only [AV.under];exact flatL_under n cs (by simpa [AV.flat] using h)
  | n,.ptr _ _,h | n,.slice _ _ _ _ _ _,h | n,.map _,h | n,.yield _,h | n,.func _ _ _,h | n,.iface _ _,h | n,.glob _ _,h=>by simp [AV.flat] at h
theorem flatL_under:∀ (n:Nat) (cs:List AV),AV.flatL cs=true→AV.underL n cs
  | n,[],_=>by simp [AV.underL]
  | n, a :: cs, h => by
    simp only [AV.flatL,Bool.and_eq_true] at h
    exact ⟨flat_under n a h.1,flatL_under n cs h.2⟩
end
theorem rows_hg (ts us:Nat→Nat):AllRows (JV ts us):=by
  intro id hid
  match id,hid with
  | 0,_=>exact .inl ⟨_,_,_,rfl,flatL_under _ _ rfl⟩
  | 1,_=>exact .inr (.inr rfl)
  | 2,_=>exact .inl ⟨_,_,_,rfl,flatL_under _ _ rfl⟩
  | 3,_=>exact .inl ⟨_,_,_,rfl,flatL_under _ _ rfl⟩
  | n+4,h=>exact absurd (show n+4 < 4 from h) (by omega)
def Qd1 (h:H):Prop:=∃ ts us:Nat→Nat,Sub (JV ts us) h
theorem alone_intro {g:Fun} {xs:List AV} {h0 h:H} {k:AV→H→Prop} (s:Sub h0 h) (r:AllRows h0) (u:AV.underL h0.next xs) (e:g xs h0 fun r _=>AV.under h0.next r∧k r h):Qff g xs h k:=⟨h0,s,r,u,e⟩
theorem liv_gen {P:Program} {g:Fun} (hok:Qt P 4 g) (hrun:∀ (ts us:Nat→Nat) (K:AV→Prop),K (.bool true)=g [] (JV ts us) fun r _=>K r):Qt P 4 (Qbo Qd1):=hok.alone.imp fun xs h k e0=>by
  obtain ⟨hx,hq,e⟩:=e0
  subst hx
  obtain ⟨ts,us,s⟩:=hq
  have h1:AV.under (JV ts us).next (.bool true)∧k (.bool true) h:=⟨by simp only [AV.under],e⟩
  have h2:AV.underL (JV ts us).next []:=by simp only [AV.underL]
  exact alone_intro s (rows_hg ts us) h2 (Eq.mp (hrun ts us (fun r=>AV.under (JV ts us).next r∧k r h)) h1)
theorem q4_ok:Qt Tryd.prog 4 (Qbo Qd1):=liv_gen g4_ok lives_run
theorem w3_of {a0:AV} {L:List Lw} {a1 a2:Int} {bits:Nat} {h:H} {ts us:Nat→Nat} (s:Sub (JV ts us) h) (r:RowAt lwc 1 h a0 L) (rl:∀ e∈L,RowP wrc 3 h e.1 e.2∧e.2.length≤140737488351232) (hb:h.base≤h.next) (hl:L.length≤140737488351232) (hbits:bits < 4294967296) :
    w3 (s3G J0 (Qbo Qd1) s5 T6 T7 T9 T14 s10 T11 T12 T13) [a0,.int .i64 a1,.int .i64 a2,.int .u32 (Int.ofNat bits)] h isT:=by
  show asI .i64 (.int .i64 a1) fun a1=>asI .i64 (.int .i64 a2) fun a2=>asI .u32 (.int .u32 (Int.ofNat bits)) fun a3=>s3G J0 (Qbo Qd1) s5 T6 T7 T9 T14 s10 T11 T12 T13 a0 a1 a2 a3 h (fun r0 h=>isT (.bool r0) h)
  rw [Qa,Qa,Qa]
  exact t3 Qd1 r rl hb hl hbits ⟨ts,us,s⟩ fun h'=>rfl
end Go.Proofs.YtfgdelkdmdmfgaaDoor
