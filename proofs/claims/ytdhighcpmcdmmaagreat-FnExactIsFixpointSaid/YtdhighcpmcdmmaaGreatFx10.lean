/- Contracts and laws towards ReadsOf, part 11 of 54. No condition. -/
import Derived.Test.YtdhighcpmcdmmaaGreatFx03
import Derived.Test.YtdhighcpmcdmmaaGreatFx09
set_option maxHeartbeats 32000000
set_option maxRecDepth 10000
set_option linter.unusedVariables false
set_option linter.unusedSimpArgs false
namespace Go.Proofs.YtdhighcpmcdmmaaGreat
open Go.RowKit
variable{w:World}{xs:List Int}{rest:List Value}{b:Nat}
abbrev JW:=av×Int×Int×Int×ByteArray×List Int×List Int×List Co
instance decEntry:DecidableEq JW:=@instDecidableEqProd _ _ _ (@instDecidableEqProd _ _ _ (@instDecidableEqProd _ _ _ (@instDecidableEqProd _ _ _ (@instDecidableEqProd _ _ _ (@instDecidableEqProd _ _ _ (@instDecidableEqProd _ _ _ (inferInstance)))))))
theorem eT.wr{α:Type}[Rd α]{w':World}{x:Value}{q:List (List Nat)}{s:List α}{fq:List Nat}(h:eT w x q s)(k:Wr fq w w')(E:∀b,x.ownBlock=some b→b∉fq)(H:∀c∈q.flatten,c∉fq):eT w' x q s:=by
 rcases h with h|⟨b,off,c,B,rfl,D,hc⟩
 ·exact .inl h
 ·exact .inr ⟨b,off,c,B,rfl,D.mono (k.lN D.lt H),fun j u I=>k.aO (hc j u I) (E b rfl)⟩
def lF(rest:List Value)(w:World)(b:Nat)(xs:List Int):Prop:=az w b 3 (xs.map (Value.int .i64)++rest)
theorem lF.lt(h:lF rest w b xs):b<w.heap.size:=az.lt h
theorem lF.cell(h:lF rest w b xs){k:Nat}(q:k<xs.length):w.cell? ⟨b,k,none⟩=some (.int .i64 xs[k]):=by
 have s:=az.cell h (k:=k) (by simp;omega);rw[s];simp[List.getElem_append_left,q]
theorem lF.set(h:lF rest w b xs){k:Nat}(s:k<xs.length)(y:Int):lF rest (w.setCell ⟨b,k,none⟩ (.int .i64 y)) b (xs.set k y):=by
 have q:=az.set h k (.int .i64 y);unfold lF;rw[List.map_set];rw[List.set_append_left _ _ (by simpa using s)] at q;exact q
theorem lF.JI{w0:World}{v:Value}{fps:List (List Nat)}(h:bE (α:=Int) w0 3 w v fps xs)(s:xs≠[]):∃g cap rest,v=.slice (some ⟨g,0,none⟩) xs.length cap∧w0.heap.size≤g∧g<w.heap.size∧lF rest w g xs:=by
 have B:=h.base;obtain⟨D,E,H,-,-⟩:=h.xq;obtain rfl:v=D:=by simpa using E
 rcases H.2 with⟨-,I⟩|⟨g,cap,cur,rfl,U,J,X,Y,Z,K⟩
 ·exact absurd (List.eq_nil_of_length_eq_zero I) s
 ·have q:=B g rfl
  refine⟨g,cap,cur.toList.drop xs.length,rfl,q.1,q.2,?_⟩;unfold lF az;rw[J]
  have O:cur.toList.take xs.length=xs.map (Value.int .i64):=by
   have T:cur.toList.take (xs.length*1)=xs.map (Value.int .i64):=K
   rwa [Nat.mul_one] at T
  rw[←O,List.take_append_drop]
end Go.Proofs.YtdhighcpmcdmmaaGreat
