import Derived.Test.YtfgdelkdmdmfgaaDoorWaK
namespace Go.Proofs.YtfgdelkdmdmfgaaDoor
open Go Go.Am
set_option linter.all false
set_option maxRecDepth 100000
theorem G2 {n mo:Nat} (rest:List UInt8) (h:n≤mo):QM mo (uv n++rest,false)=(n,(rest,false)):=G3 (Xu h)
theorem Qad {k:List UInt8} {mo:Nat} (rest:List UInt8) (h:k.length≤mo):Zv mo (uv k.length++k++rest,false)=(k,(rest,false)):=by
  have e:=G2 (n:=k.length) (mo:=mo) (k++rest) h
  rw [← List.append_assoc] at e
  unfold Zv
  rw [e]
  rw [if_neg (by
    rintro (h | h)
    · cases h
    · have h : (k ++ rest).length < k.length := h
      rw [List.length_append] at h;omega)]
  show ((k++rest).take k.length,((k++rest).drop k.length,false))=_
  rw [List.take_left,List.drop_left]
theorem Qbw : ∀ (l : List Wt) (acc : List Wt), (∀ t ∈ l, YS t = true) → Z9 l.length (l.flatMap WP, false) acc = (([], false), acc ++ l)
  | [],acc,_=>by rw [List.append_nil];rfl
  | t :: l, acc, h => by
    obtain ⟨_,f1,f2,f3⟩:=QaI (h t (by simp))
    have ih:=fun a=>Qbw l a fun x hx=>h x (List.mem_cons_of_mem _ hx)
    have e0:(t::l).flatMap WP=WP t++l.flatMap WP:=by rw [List.flatMap_cons]
    rw [List.length_cons,e0]
    obtain ⟨key,val,del⟩:=t
    have f1:key.length≤512:=f1
    have f2:val.length≤4096:=f2
    have f3:del=true→val=[]:=f3
    cases del with
    | true =>
      obtain rfl:=f3 rfl
      have e1:WP (key,[],true)++l.flatMap WP=1::(uv key.length++key++l.flatMap WP):=by unfold WP;rw [if_pos rfl];rfl
      rw [e1,Qbx (Qdw (c:=1) (by decide))]
      rw [if_pos (by decide),Qad _ f1]
      rw [ih,List.append_assoc];rfl
    | false =>
      have e1:WP (key,val,false)++l.flatMap WP=0::(uv key.length++key++(uv val.length++val++l.flatMap WP)):=by
        unfold WP;rw [if_neg (by simp)];simp [List.append_assoc]
      rw [e1,Qbx (Qdw (c:=0) (by decide))]
      rw [if_neg (by decide),Qad _ f1]
      dsimp only
      rw [Qad _ f2]
      rw [ih,List.append_assoc];rfl
theorem dec_enc {s:Nat} {l:List Wt} (h1:1≤s) (h2:s≤1073741824) (hc:Y6 l=Int.ofNat 0):decS (YK s l)=some (s,l):=by
  obtain ⟨_,c1,c2,_⟩:=Qct hc
  have fine:∀ t∈l,YS t=true:=fun t ht=>by
    obtain ⟨j,hj,rfl⟩:=List.getElem_of_mem ht
    exact c2 j hj
  have e1:QM 1073741824 (YK s l,false)=(s,(uv l.length++l.flatMap WP,false)):=by
    unfold YK;rw [List.append_assoc];exact G2 _ h2
  unfold decS
  rw [e1]
  show XS s (Z9 (QM 64 (uv l.length++l.flatMap WP,false)).1 (QM 64 (uv l.length++l.flatMap WP,false)).2 [])=_
  rw [G2 _ c1]
  show XS s (Z9 l.length (l.flatMap WP,false) [])=_
  rw [Qbw l [] fine]
  show XS s (([],false),[]++l)=_
  rw [List.nil_append]
  unfold XS
  rw [if_neg (by rintro (h | h | h | h);cases h;exact h rfl;omega;exact h hc)]
end Go.Proofs.YtfgdelkdmdmfgaaDoor
