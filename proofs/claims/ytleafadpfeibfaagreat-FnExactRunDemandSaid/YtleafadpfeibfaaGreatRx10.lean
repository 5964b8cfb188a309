/- Contracts and laws towards ReadsOf, part 12 of 54. No condition. -/
import Derived.Test.YtleafadpfeibfaaGreatRx07
import Derived.Test.YtleafadpfeibfaaGreatRx09
set_option maxHeartbeats 32000000
set_option maxRecDepth 10000
set_option linter.unusedVariables false
set_option linter.unusedSimpArgs false
namespace Go.Proofs.YtleafadpfeibfaaGreat
open Go.RowKit
variable{w:World}{xs:List Int}{rest:List Value}{b:Nat}
abbrev JW:=av×Int×Int×Int×ByteArray×List Int×List Int×List Co
instance decEntry:DecidableEq JW:=@instDecidableEqProd _ _ _ (@instDecidableEqProd _ _ _ (@instDecidableEqProd _ _ _ (@instDecidableEqProd _ _ _ (@instDecidableEqProd _ _ _ (@instDecidableEqProd _ _ _ (@instDecidableEqProd _ _ _ (inferInstance)))))))
theorem eT.wr{α:Type}[Rd α]{w':World}{x:Value}{q:List (List Nat)}{B:List α}{fq:List Nat}(h:eT w x q B)(k:Wr fq w w')(hb:∀b,x.ownBlock=some b→b∉fq)(hg:∀c∈q.flatten,c∉fq):eT w' x q B:=by
 rcases h with h|⟨b,off,c,D,rfl,I,hc⟩
 ·exact .inl h
 ·exact .inr ⟨b,off,c,D,rfl,I.mono (k.lN I.lt hg),fun j u J=>k.aO (hc j u J) (hb b rfl)⟩
def lF(rest:List Value)(w:World)(b:Nat)(xs:List Int):Prop:=az w b 3 (xs.map (Value.int .i64)++rest)
theorem lF.lt(h:lF rest w b xs):b<w.heap.size:=az.lt h
theorem lF.cell(h:lF rest w b xs){k:Nat}(hk:k<xs.length):w.cell? ⟨b,k,none⟩=some (.int .i64 xs[k]):=by
 have h1:=az.cell h (k:=k) (by simp;omega);rw[h1];simp[List.getElem_append_left,hk]
theorem lF.set(h:lF rest w b xs){k:Nat}(hk:k<xs.length)(y:Int):lF rest (w.setCell ⟨b,k,none⟩ (.int .i64 y)) b (xs.set k y):=by
 have h1:=az.set h k (.int .i64 y);unfold lF;rw[List.map_set];rw[List.set_append_left _ _ (by simpa using hk)] at h1;exact h1
theorem lF.JI{w0:World}{v:Value}{fps:List (List Nat)}(h:bE (α:=Int) w0 3 w v fps xs)(hn:xs≠[]):∃g cap rest,v=.slice (some ⟨g,0,none⟩) xs.length cap∧w0.heap.size≤g∧g<w.heap.size∧lF rest w g xs:=by
 have hb:=h.base;obtain⟨B,D,I,-,-⟩:=h.xq;obtain rfl:v=B:=by simpa using D
 rcases I.2 with⟨-,J⟩|⟨g,cap,cur,rfl,h1,K,V,X,Y,O⟩
 ·exact absurd (List.eq_nil_of_length_eq_zero J) hn
 ·have q:=hb g rfl
  refine⟨g,cap,cur.toList.drop xs.length,rfl,q.1,q.2,?_⟩;unfold lF az;rw[K]
  have T:cur.toList.take xs.length=xs.map (Value.int .i64):=by
   have U:cur.toList.take (xs.length*1)=xs.map (Value.int .i64):=O
   rwa [Nat.mul_one] at U
  rw[←T,List.take_append_drop]
end Go.Proofs.YtleafadpfeibfaaGreat
