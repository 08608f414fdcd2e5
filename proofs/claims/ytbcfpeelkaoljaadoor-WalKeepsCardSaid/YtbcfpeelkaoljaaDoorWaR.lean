import Derived.Test.YtbcfpeelkaoljaaDoorWaK
namespace Go.Proofs.YtbcfpeelkaoljaaDoor
open Go Go.Am
set_option linter.all false
set_option maxRecDepth 100000
theorem G0 {n mo:Nat} (rest:List UInt8) (h:n≤mo):QN mo (uv n++rest,false)=(n,(rest,false)):=G1 (XC h)
theorem Qag {k:List UInt8} {mo:Nat} (rest:List UInt8) (h:k.length≤mo):Zx mo (uv k.length++k++rest,false)=(k,(rest,false)):=by
  have e:=G0 (n:=k.length) (mo:=mo) (k++rest) h
  rw [← List.append_assoc] at e
  unfold Zx
  rw [e]
  rw [if_neg (by
    rintro (h | h)
    · cases h
    · have h : (k ++ rest).length < k.length := h
      rw [List.length_append] at h;omega)]
  show ((k++rest).take k.length,((k++rest).drop k.length,false))=_
  rw [List.take_left,List.drop_left]
theorem QbG : ∀ (l : List Wt) (acc : List Wt), (∀ t ∈ l, YT t = true) → Yc l.length (l.flatMap WN, false) acc = (([], false), acc ++ l)
  | [],acc,_=>by rw [List.append_nil];rfl
  | t :: l, acc, h => by
    obtain ⟨_,f1,f2,f3⟩:=QaK (h t (by simp))
    have ih:=fun a=>QbG l a fun x hx=>h x (List.mem_cons_of_mem _ hx)
    have e0:(t::l).flatMap WN=WN t++l.flatMap WN:=by rw [List.flatMap_cons]
    rw [List.length_cons,e0]
    obtain ⟨key,val,del⟩:=t
    have f1:key.length≤512:=f1
    have f2:val.length≤4096:=f2
    have f3:del=true→val=[]:=f3
    cases del with
    | true =>
      obtain rfl:=f3 rfl
      have e1:WN (key,[],true)++l.flatMap WN=1::(uv key.length++key++l.flatMap WN):=by unfold WN;rw [if_pos rfl];rfl
      rw [e1,QbH (QdI (c:=1) (by decide))]
      rw [if_pos (by decide),Qag _ f1]
      rw [ih,List.append_assoc];rfl
    | false =>
      have e1:WN (key,val,false)++l.flatMap WN=0::(uv key.length++key++(uv val.length++val++l.flatMap WN)):=by
        unfold WN;rw [if_neg (by simp)];simp [List.append_assoc]
      rw [e1,QbH (QdI (c:=0) (by decide))]
      rw [if_neg (by decide),Qag _ f1]
      dsimp only
      rw [Qag _ f2]
      rw [ih,List.append_assoc];rfl
theorem dec_enc {s:Nat} {l:List Wt} (h1:1≤s) (h2:s≤1073741824) (hc:Y4 l=Int.ofNat 0):decS (WO s l)=some (s,l):=by
  obtain ⟨_,c1,c2,_⟩:=QaQ hc
  have fine:∀ t∈l,YT t=true:=fun t ht=>by
    obtain ⟨j,hj,rfl⟩:=List.getElem_of_mem ht
    exact c2 j hj
  have e1:QN 1073741824 (WO s l,false)=(s,(uv l.length++l.flatMap WN,false)):=by
    unfold WO;rw [List.append_assoc];exact G0 _ h2
  unfold decS
  rw [e1]
  show X1 s (Yc (QN 64 (uv l.length++l.flatMap WN,false)).1 (QN 64 (uv l.length++l.flatMap WN,false)).2 [])=_
  rw [G0 _ c1]
  show X1 s (Yc l.length (l.flatMap WN,false) [])=_
  rw [QbG l [] fine]
  show X1 s (([],false),[]++l)=_
  rw [List.nil_append]
  unfold X1
  rw [if_neg (by rintro (h | h | h | h);cases h;exact h rfl;omega;exact h hc)]
end Go.Proofs.YtbcfpeelkaoljaaDoor
