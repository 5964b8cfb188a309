/- Contracts and laws towards ReadsOf, part 8 of 54. No condition. -/
import Derived.Test.YtdhighcpmcdmmaaGreatFx02
set_option maxHeartbeats 32000000
set_option maxRecDepth 10000
set_option linter.unusedVariables false
set_option linter.unusedSimpArgs false
namespace Go.Proofs.YtdhighcpmcdmmaaGreat
open Go.RowKit
variable{w:World}
abbrev av:=Int×ByteArray
def fM(x:av):Nat:=x.2.size
theorem LD{fp:List Nat}{cs:Array Value}(q0:Int)(q1:ByteArray)(h:Rd.rd (α:=av) fp w cs.toList (q0,q1)):
  cs=#[.int .i64 q0,.string q1]∧fp=([]++[])∧(Lit.int .i64 q0).wf=true∧q1.size≤maxLen:=by
 generalize q:cs.toList=l at h;obtain⟨_,_,_,_,rfl,rfl,⟨rfl,rfl,s⟩,⟨rfl,rfl,B⟩⟩:=h;exact⟨Array.toList_inj.1 (by simpa using q),rfl,s,B⟩
theorem K7{fp:List Nat}{c:Array Value}{x:av}(h:Rd.rd fp w c.toList x):
 ∃q0 q1,(q0,q1)=x∧c=#[.int .i64 q0,.string q1]∧Ky (fp=[])∧(Lit.int .i64 q0).wf=true∧q1.size≤maxLen:=by
 obtain⟨q0,q1⟩:=x;obtain⟨rfl,B,q,s⟩:=LD q0 q1 h;exact⟨_,_,rfl,rfl,Kz B,q,s⟩
theorem Lh{f:List Nat}{u:World}{b o n m k:Nat}{xs:List (av)}(h:SlR f w (.slice (some ⟨b,o,none⟩) n m) xs)(E:k<xs.length)(g:Gr w u):
 ∃q0 q1,Ky ((q0,q1)=xs[k])∧Ky (Rd.rd (α:=av) [] w [.int .i64 q0,.string q1] (q0,q1))∧(Lit.int .i64 q0).wf=true∧q1.size≤maxLen∧u.cell? ⟨b,o+k*2,none⟩=some (.int .i64 q0)∧u.cell? ⟨b,o+k*2+1,none⟩=some (.string q1)∧b<u.heap.size:=by
 obtain⟨_,I,hc,q⟩:=h.el E;obtain⟨q0,q1,s,rfl,H,B,D⟩:=K7 q;obtain rfl:=H.o;have z:=g.keep (hc 0 _ rfl);exact⟨_,_,Kz s,Lt s q,B,D,z,g.keep (hc 1 _ rfl),blk z⟩
theorem bZ(q0:Int)(q1:ByteArray)(h:(Lit.int .i64 q0).wf=true)(q:q1.size≤maxLen):
  Rd.rd (α:=av) (([]++[])) w [.int .i64 q0,.string q1] (q0,q1):=⟨_,_,_,_,rfl,rfl,⟨rfl,rfl,h⟩,⟨rfl,rfl,q⟩⟩
theorem Aw(q0:Int)(q1:ByteArray)(h:Int)(q:ByteArray)(s:q0=h)(B:q1=q):((q0,q1):av)=(h,q):=by
 exact Prod.ext_iff.2 ⟨s,B⟩
def kP(xs:List av):Nat:=wtL fM xs
theorem Tryz.O6:(Tryz.prog.info? 63).map (fun i=>(i.zero,i.size,i.bytes))=some (some (.agg #[.int .i64 0,.string ByteArray.empty]),2,24):=by kernel_rfl
abbrev Co:=av×Int×ByteArray
instance decReading:DecidableEq Co:=@instDecidableEqProd _ _ _ (@instDecidableEqProd _ _ _ (inferInstance))
end Go.Proofs.YtdhighcpmcdmmaaGreat
