/- Contracts and laws towards ReadsOf, part 10 of 54. No condition. -/
import Derived.Test.YtdhighcpmcdmmaaGreatFx06
import Derived.Test.YtdhighcpmcdmmaaGreatFx04
import Derived.Test.YtdhighcpmcdmmaaGreatFx05
set_option maxHeartbeats 32000000
set_option maxRecDepth 10000
set_option linter.unusedVariables false
set_option linter.unusedSimpArgs false
namespace Go.Proofs.YtdhighcpmcdmmaaGreat
open Go.RowKit
open _root_.List (getElem_mem)
open _root_.Nat (add_zero mul_one)
variable{w w0 w':World}{b o k:Nat}{t e:TypeId}{a0 a1 a2 a3 a4 a5 a6 a7 v a8 a9 a10 a11 a12 a13 u:Value}{r vs:List Value}{fps:List (List Nat)}{xs:List Int}{fp:List Nat}
def az(w:World)(b:Nat)(t:TypeId)(vs:List Value):Prop:=w.heap[b]?=some (.cells vs.toArray t)
theorem az.lt(h:az w b t vs):b<w.heap.size:=(Array.getElem?_eq_some_iff.1 h).1
theorem az.cell(h:az w b t vs)(q:k<vs.length):w.cell? ⟨b,k,none⟩=some vs[k]:=by
 rw[cell_of_row w b k _ t (0,0) h];simp[q]
theorem az.c2(h:az w b t (a0::a1::r)):w.cell? ⟨b,0,none⟩=some a0∧w.cell? ⟨b,1,none⟩=some a1:=⟨h.cell (k:=0) (by simp),h.cell (k:=1) (by simp)⟩
theorem az.c3(h:az w b t (a0::a1::a2::r)):w.cell? ⟨b,0,none⟩=some a0∧w.cell? ⟨b,1,none⟩=some a1∧w.cell? ⟨b,2,none⟩=some a2:=⟨h.cell (k:=0) (by simp),h.cell (k:=1) (by simp),h.cell (k:=2) (by simp)⟩
theorem az.c4(h:az w b t (a0::a1::a2::a3::r)):w.cell? ⟨b,0,none⟩=some a0∧w.cell? ⟨b,1,none⟩=some a1∧w.cell? ⟨b,2,none⟩=some a2∧w.cell? ⟨b,3,none⟩=some a3:=⟨h.cell (k:=0) (by simp),h.cell (k:=1) (by simp),h.cell (k:=2) (by simp),h.cell (k:=3) (by simp)⟩
theorem az.c5(h:az w b t (a0::a1::a2::a3::a4::r)):w.cell? ⟨b,0,none⟩=some a0∧w.cell? ⟨b,1,none⟩=some a1∧w.cell? ⟨b,2,none⟩=some a2∧w.cell? ⟨b,3,none⟩=some a3∧w.cell? ⟨b,4,none⟩=some a4:=⟨h.cell (k:=0) (by simp),h.cell (k:=1) (by simp),h.cell (k:=2) (by simp),h.cell (k:=3) (by simp),h.cell (k:=4) (by simp)⟩
theorem az.c6(h:az w b t (a0::a1::a2::a3::a4::a5::r)):w.cell? ⟨b,0,none⟩=some a0∧w.cell? ⟨b,1,none⟩=some a1∧w.cell? ⟨b,2,none⟩=some a2∧w.cell? ⟨b,3,none⟩=some a3∧w.cell? ⟨b,4,none⟩=some a4∧w.cell? ⟨b,5,none⟩=some a5:=⟨h.cell (k:=0) (by simp),h.cell (k:=1) (by simp),h.cell (k:=2) (by simp),h.cell (k:=3) (by simp),h.cell (k:=4) (by simp),h.cell (k:=5) (by simp)⟩
theorem az.c7(h:az w b t (a0::a1::a2::a3::a4::a5::a6::r)):w.cell? ⟨b,0,none⟩=some a0∧w.cell? ⟨b,1,none⟩=some a1∧w.cell? ⟨b,2,none⟩=some a2∧w.cell? ⟨b,3,none⟩=some a3∧w.cell? ⟨b,4,none⟩=some a4∧w.cell? ⟨b,5,none⟩=some a5∧w.cell? ⟨b,6,none⟩=some a6:=⟨h.cell (k:=0) (by simp),h.cell (k:=1) (by simp),h.cell (k:=2) (by simp),h.cell (k:=3) (by simp),h.cell (k:=4) (by simp),h.cell (k:=5) (by simp),h.cell (k:=6) (by simp)⟩
theorem az.c8(h:az w b t (a0::a1::a2::a3::a4::a5::a6::a7::r)):w.cell? ⟨b,0,none⟩=some a0∧w.cell? ⟨b,1,none⟩=some a1∧w.cell? ⟨b,2,none⟩=some a2∧w.cell? ⟨b,3,none⟩=some a3∧w.cell? ⟨b,4,none⟩=some a4∧w.cell? ⟨b,5,none⟩=some a5∧w.cell? ⟨b,6,none⟩=some a6∧w.cell? ⟨b,7,none⟩=some a7:=⟨h.cell (k:=0) (by simp),h.cell (k:=1) (by simp),h.cell (k:=2) (by simp),h.cell (k:=3) (by simp),h.cell (k:=4) (by simp),h.cell (k:=5) (by simp),h.cell (k:=6) (by simp),h.cell (k:=7) (by simp)⟩
theorem az.c9(h:az w b t (a0::a1::a2::a3::a4::a5::a6::a7::a8::r)):w.cell? ⟨b,0,none⟩=some a0∧w.cell? ⟨b,1,none⟩=some a1∧w.cell? ⟨b,2,none⟩=some a2∧w.cell? ⟨b,3,none⟩=some a3∧w.cell? ⟨b,4,none⟩=some a4∧w.cell? ⟨b,5,none⟩=some a5∧w.cell? ⟨b,6,none⟩=some a6∧w.cell? ⟨b,7,none⟩=some a7∧w.cell? ⟨b,8,none⟩=some a8:=⟨h.cell (k:=0) (by simp),h.cell (k:=1) (by simp),h.cell (k:=2) (by simp),h.cell (k:=3) (by simp),h.cell (k:=4) (by simp),h.cell (k:=5) (by simp),h.cell (k:=6) (by simp),h.cell (k:=7) (by simp),h.cell (k:=8) (by simp)⟩
theorem az.c10(h:az w b t (a0::a1::a2::a3::a4::a5::a6::a7::a8::a9::r)):w.cell? ⟨b,0,none⟩=some a0∧w.cell? ⟨b,1,none⟩=some a1∧w.cell? ⟨b,2,none⟩=some a2∧w.cell? ⟨b,3,none⟩=some a3∧w.cell? ⟨b,4,none⟩=some a4∧w.cell? ⟨b,5,none⟩=some a5∧w.cell? ⟨b,6,none⟩=some a6∧w.cell? ⟨b,7,none⟩=some a7∧w.cell? ⟨b,8,none⟩=some a8∧w.cell? ⟨b,9,none⟩=some a9:=⟨h.cell (k:=0) (by simp),h.cell (k:=1) (by simp),h.cell (k:=2) (by simp),h.cell (k:=3) (by simp),h.cell (k:=4) (by simp),h.cell (k:=5) (by simp),h.cell (k:=6) (by simp),h.cell (k:=7) (by simp),h.cell (k:=8) (by simp),h.cell (k:=9) (by simp)⟩
theorem az.c11(h:az w b t (a0::a1::a2::a3::a4::a5::a6::a7::a8::a9::a10::r)):w.cell? ⟨b,0,none⟩=some a0∧w.cell? ⟨b,1,none⟩=some a1∧w.cell? ⟨b,2,none⟩=some a2∧w.cell? ⟨b,3,none⟩=some a3∧w.cell? ⟨b,4,none⟩=some a4∧w.cell? ⟨b,5,none⟩=some a5∧w.cell? ⟨b,6,none⟩=some a6∧w.cell? ⟨b,7,none⟩=some a7∧w.cell? ⟨b,8,none⟩=some a8∧w.cell? ⟨b,9,none⟩=some a9∧w.cell? ⟨b,10,none⟩=some a10:=⟨h.cell (k:=0) (by simp),h.cell (k:=1) (by simp),h.cell (k:=2) (by simp),h.cell (k:=3) (by simp),h.cell (k:=4) (by simp),h.cell (k:=5) (by simp),h.cell (k:=6) (by simp),h.cell (k:=7) (by simp),h.cell (k:=8) (by simp),h.cell (k:=9) (by simp),h.cell (k:=10) (by simp)⟩
theorem az.c12(h:az w b t (a0::a1::a2::a3::a4::a5::a6::a7::a8::a9::a10::a11::r)):w.cell? ⟨b,0,none⟩=some a0∧w.cell? ⟨b,1,none⟩=some a1∧w.cell? ⟨b,2,none⟩=some a2∧w.cell? ⟨b,3,none⟩=some a3∧w.cell? ⟨b,4,none⟩=some a4∧w.cell? ⟨b,5,none⟩=some a5∧w.cell? ⟨b,6,none⟩=some a6∧w.cell? ⟨b,7,none⟩=some a7∧w.cell? ⟨b,8,none⟩=some a8∧w.cell? ⟨b,9,none⟩=some a9∧w.cell? ⟨b,10,none⟩=some a10∧w.cell? ⟨b,11,none⟩=some a11:=⟨h.cell (k:=0) (by simp),h.cell (k:=1) (by simp),h.cell (k:=2) (by simp),h.cell (k:=3) (by simp),h.cell (k:=4) (by simp),h.cell (k:=5) (by simp),h.cell (k:=6) (by simp),h.cell (k:=7) (by simp),h.cell (k:=8) (by simp),h.cell (k:=9) (by simp),h.cell (k:=10) (by simp),h.cell (k:=11) (by simp)⟩
theorem az.c13(h:az w b t (a0::a1::a2::a3::a4::a5::a6::a7::a8::a9::a10::a11::a12::r)):w.cell? ⟨b,0,none⟩=some a0∧w.cell? ⟨b,1,none⟩=some a1∧w.cell? ⟨b,2,none⟩=some a2∧w.cell? ⟨b,3,none⟩=some a3∧w.cell? ⟨b,4,none⟩=some a4∧w.cell? ⟨b,5,none⟩=some a5∧w.cell? ⟨b,6,none⟩=some a6∧w.cell? ⟨b,7,none⟩=some a7∧w.cell? ⟨b,8,none⟩=some a8∧w.cell? ⟨b,9,none⟩=some a9∧w.cell? ⟨b,10,none⟩=some a10∧w.cell? ⟨b,11,none⟩=some a11∧w.cell? ⟨b,12,none⟩=some a12:=⟨h.cell (k:=0) (by simp),h.cell (k:=1) (by simp),h.cell (k:=2) (by simp),h.cell (k:=3) (by simp),h.cell (k:=4) (by simp),h.cell (k:=5) (by simp),h.cell (k:=6) (by simp),h.cell (k:=7) (by simp),h.cell (k:=8) (by simp),h.cell (k:=9) (by simp),h.cell (k:=10) (by simp),h.cell (k:=11) (by simp),h.cell (k:=12) (by simp)⟩
theorem az.c14(h:az w b t (a0::a1::a2::a3::a4::a5::a6::a7::a8::a9::a10::a11::a12::a13::r)):w.cell? ⟨b,0,none⟩=some a0∧w.cell? ⟨b,1,none⟩=some a1∧w.cell? ⟨b,2,none⟩=some a2∧w.cell? ⟨b,3,none⟩=some a3∧w.cell? ⟨b,4,none⟩=some a4∧w.cell? ⟨b,5,none⟩=some a5∧w.cell? ⟨b,6,none⟩=some a6∧w.cell? ⟨b,7,none⟩=some a7∧w.cell? ⟨b,8,none⟩=some a8∧w.cell? ⟨b,9,none⟩=some a9∧w.cell? ⟨b,10,none⟩=some a10∧w.cell? ⟨b,11,none⟩=some a11∧w.cell? ⟨b,12,none⟩=some a12∧w.cell? ⟨b,13,none⟩=some a13:=⟨h.cell (k:=0) (by simp),h.cell (k:=1) (by simp),h.cell (k:=2) (by simp),h.cell (k:=3) (by simp),h.cell (k:=4) (by simp),h.cell (k:=5) (by simp),h.cell (k:=6) (by simp),h.cell (k:=7) (by simp),h.cell (k:=8) (by simp),h.cell (k:=9) (by simp),h.cell (k:=10) (by simp),h.cell (k:=11) (by simp),h.cell (k:=12) (by simp),h.cell (k:=13) (by simp)⟩
theorem az.c15{q:Value}(h:az w b t (a0::a1::a2::a3::a4::a5::a6::a7::a8::a9::a10::a11::a12::a13::q::r)):w.cell? ⟨b,0,none⟩=some a0∧w.cell? ⟨b,1,none⟩=some a1∧w.cell? ⟨b,2,none⟩=some a2∧w.cell? ⟨b,3,none⟩=some a3∧w.cell? ⟨b,4,none⟩=some a4∧w.cell? ⟨b,5,none⟩=some a5∧w.cell? ⟨b,6,none⟩=some a6∧w.cell? ⟨b,7,none⟩=some a7∧w.cell? ⟨b,8,none⟩=some a8∧w.cell? ⟨b,9,none⟩=some a9∧w.cell? ⟨b,10,none⟩=some a10∧w.cell? ⟨b,11,none⟩=some a11∧w.cell? ⟨b,12,none⟩=some a12∧w.cell? ⟨b,13,none⟩=some a13∧w.cell? ⟨b,14,none⟩=some q:=⟨h.cell (k:=0) (by simp),h.cell (k:=1) (by simp),h.cell (k:=2) (by simp),h.cell (k:=3) (by simp),h.cell (k:=4) (by simp),h.cell (k:=5) (by simp),h.cell (k:=6) (by simp),h.cell (k:=7) (by simp),h.cell (k:=8) (by simp),h.cell (k:=9) (by simp),h.cell (k:=10) (by simp),h.cell (k:=11) (by simp),h.cell (k:=12) (by simp),h.cell (k:=13) (by simp),h.cell (k:=14) (by simp)⟩
theorem az.c16{q s:Value}(h:az w b t (a0::a1::a2::a3::a4::a5::a6::a7::a8::a9::a10::a11::a12::a13::q::s::r)):w.cell? ⟨b,0,none⟩=some a0∧w.cell? ⟨b,1,none⟩=some a1∧w.cell? ⟨b,2,none⟩=some a2∧w.cell? ⟨b,3,none⟩=some a3∧w.cell? ⟨b,4,none⟩=some a4∧w.cell? ⟨b,5,none⟩=some a5∧w.cell? ⟨b,6,none⟩=some a6∧w.cell? ⟨b,7,none⟩=some a7∧w.cell? ⟨b,8,none⟩=some a8∧w.cell? ⟨b,9,none⟩=some a9∧w.cell? ⟨b,10,none⟩=some a10∧w.cell? ⟨b,11,none⟩=some a11∧w.cell? ⟨b,12,none⟩=some a12∧w.cell? ⟨b,13,none⟩=some a13∧w.cell? ⟨b,14,none⟩=some q∧w.cell? ⟨b,15,none⟩=some s:=⟨h.cell (k:=0) (by simp),h.cell (k:=1) (by simp),h.cell (k:=2) (by simp),h.cell (k:=3) (by simp),h.cell (k:=4) (by simp),h.cell (k:=5) (by simp),h.cell (k:=6) (by simp),h.cell (k:=7) (by simp),h.cell (k:=8) (by simp),h.cell (k:=9) (by simp),h.cell (k:=10) (by simp),h.cell (k:=11) (by simp),h.cell (k:=12) (by simp),h.cell (k:=13) (by simp),h.cell (k:=14) (by simp),h.cell (k:=15) (by simp)⟩
theorem az.c(h:az w b t vs)(k:Nat)(q:k<vs.length:=by simp):w.cell? ⟨b,k,none⟩=some vs[k]:=h.cell q
theorem az.frozen(h:az w b t vs)(k:Nat):w.frozen? ⟨b,k,none⟩=false:=jB h k
theorem az.keep(h:az w b t vs)(e:w'.heap[b]?=w.heap[b]?):az w' b t vs:=e.trans h
theorem az.gr(h:az w b t vs)(q:Gr w w'):az w' b t vs:=h.keep (q.below.block b h.lt)
theorem az.wr(h:az w b t vs)(hw:Wr fp w w')(q:b∉fp):az w' b t vs:=h.keep (hw.block b h.lt q)
theorem az.set(h:az w b t vs)(k:Nat)(u:Value):az (w.setCell ⟨b,k,none⟩ u) b t (vs.set k u):=by
 unfold az at*;unfold World.setCell;simp only[Array.getElem?_modify,if_pos];rw[h];simp
theorem az.ne{c:Nat}(h:az w b t vs)(hc:b≠c):az (w.setCell ⟨c,k,none⟩ u) b t vs:=h.keep (heap_setCell hc)
theorem az.box(h:az w b t [v]):w.cell? ⟨b,0,none⟩=some v:=h.c 0
def jZ(w:World)(b:Nat)(t:TypeId)(xs:List Int):Prop:=az w b t (xs.map (Value.int .i64))
theorem jZ.lt(h:jZ w b t xs):b<w.heap.size:=az.lt h
theorem jZ.cell(h:jZ w b t xs)(q:k<xs.length):w.cell? ⟨b,k,none⟩=some (.int .i64 xs[k]):=by
 have:=az.cell h (k:=k) (by simpa using q);simpa using this
theorem jZ.set(h:jZ w b t xs)(k:Nat)(y:Int):jZ (w.setCell ⟨b,k,none⟩ (.int .i64 y)) b t (xs.set k y):=by
 have:=az.set h k (.int .i64 y);unfold jZ
 rwa [List.map_set]
theorem jZ.made(w:World)(n:Nat)(t:TypeId):jZ (w.alloc (.cells (madeCells #[.int .i64 0] n) t)) w.heap.size t (List.replicate n 0):=by
 unfold jZ az;rw[heap_alloc_new]
 congr 2
 apply Array.toList_inj.1;rw[toList_madeCells_one];simp
theorem ownB{g n c:Nat}(h:(Value.slice (some ⟨g,o,none⟩) n c).ownBlock=some b):g=b:=by injection h
theorem bE.same{α:Type}[Rd α]{xs:List α}(h:bE w0 e w v fps xs)(B:∀b∈fps.flatten,w'.heap[b]?=w.heap[b]?)(D:∀b,v.ownBlock=some b→w'.heap[b]?=w.heap[b]?):bE w0 e w' v fps xs:=by
 obtain⟨⟨q,s,E⟩,H⟩:=h;refine⟨⟨q,⟨s.1,?_⟩,E.mono B⟩,H⟩;rcases s.2 with I|⟨g,cap,cur,rfl,J,K,O⟩
 ·exact .inl I
 ·exact .inr ⟨g,cap,cur,rfl,J,by rw[D g rfl];exact K,O⟩
theorem bE.Pf{α:Type}[Rd α]{w1:World}{xs:List α}(h:bE w0 e w v fps xs)(B:w1.heap.size≤w0.heap.size):bE w1 e w v fps xs:=by
 obtain⟨⟨q,s,D⟩,E⟩:=h;refine⟨⟨q,⟨s.1,?_⟩,D⟩,E⟩;rcases s.2 with H|⟨g,cap,cur,I,J,K⟩
 ·exact .inl H
 ·exact .inr ⟨g,cap,cur,I,Nat.le_trans B J,K⟩
theorem eT.gr{α:Type}[Rd α]{x:Value}{q:List (List Nat)}{s:List α}(h:eT w x q s)(B:Gr w w'):eT w' x q s:=by
 rcases h with h|⟨b,off,c,D,rfl,E,hc⟩
 ·exact .inl h
 ·exact .inr ⟨b,off,c,D,rfl,E.mono (B.lN E.lt),fun j u H=>B.keep (hc j u H)⟩
section
variable{P:Program}
theorem gU{α:Type}[Rd α]{wg:World}(Y:Gr wg w)(D:wg.heap.size≤w0.heap.size)(H:w0.heap.size≤w.heap.size){ops:Array Oper}{o:Oper}{a:Act}{K:Act→World→Prop}{Q:Exit→Act→World→Prop}{E:Prop}(I:o.guard=none)(s x:Operand)(t:TypeId)
  (Z:o.op=.call {callee:=.builtin .append,args:=#[s,x],argTypes:=#[t,t]})
  (e:TypeId) (i:TypeInfo) (z:Value) (bytes:Nat) (ht:P.underlying t=some (.slice e)) (hi:P.info? e=some i) (hz:i.zero=some z)
  (hsize:i.size=Rd.n α) (J:i.bytes=bytes) (O:z.cells.size=Rd.n α)
  (v:Value) (fps:List (List Nat)) (xs:List α) (hs:a.eval s=v) (hown:bE w0 e w v fps xs)
  (T:Value) (q:List (List Nat)) (B:List α) (hx:a.eval x=T) (hsrc:eT w T q B) (U:∀b,v.ownBlock=some b→b∉q.flatten)
  (X:xs.length+B.length≤maxLen) (hbytes:(xs.length+B.length)*bytes≤140737488355328)
  (hK:∀h w',bE w0 e w' h (fps++q) (xs++B)→Wr v.ownBlock.toList w w'→(h.ownBlock=v.ownBlock∨h.ownBlock=some w.heap.size)→Gr wg w'→K (a.put o.dst h) w'):
  if Region.wanted o (yielded ops a.tmps)=true then Oper.wp P o a w K Q else E:=by
 have hw:Region.wanted o (yielded ops a.tmps)=true:=by simp[Region.wanted,I]
 rw[if_pos hw];obtain⟨h,w',hr,h2,h3,h4,h5,h6⟩:=mO (P:=P) Y D H t o.type e i z bytes ht hi hz hsize J O hown hsrc U X hbytes;unfold Oper.wp;simp only[execOp,Z,resolve,invoke,builtin,Sem.run_bind,Sem.run_pure,Result.andThen_ok,List.map_toArray,List.map_cons,List.map_nil,hs,hx,hr];exact hK h w' h2 (Wr.CB h3 h6) h4 h5
end
theorem fZ.zP{fq:List Nat}{cs:List Value}{x:fZ w0.heap.size e}(h:Rd.rd fq w cs x):∃v fps,cs=[v]∧fq=v.ownBlock.toList∧bE (α:=Int) w0 e w v fps x.o∧fps.flatten=[]:=by
 obtain⟨v,rfl,h,q,rfl⟩:=h;refine⟨v,List.replicate x.o.length [],rfl,rfl,⟨⟨x.o.map fun y=>[Value.int .i64 y],?_,?_⟩,by simp⟩,by simp⟩
 ·have s:(x.o.map fun y=>[Value.int .i64 y]).flatten=x.o.map (Value.int .i64):=by
   induction x.o with
   |nil=>rfl
   |cons a l B=>simp[B]
  rw[s];exact h
 ·exact⟨by simp,by simp,fun i D H E=>by simpa using rO (q _ (getElem_mem D)) w⟩
theorem bE.xq(h:bE (α:=Int) w0 e w v fps xs):Rd.rd v.ownBlock.toList w [v] (fZ.mk w0.heap.size e xs):=by
 obtain⟨⟨q,D,s⟩,-⟩:=h;have E:∀i (h:i<xs.length) (B:i<q.length),q[i]=[Value.int .i64 xs[i]]∧(Lit.int .i64 xs[i]).wf=true:=fun i h B=>(s.rd i h B (by rw[s.fl];exact h)).2
 have H:q=xs.map fun y=>[Value.int .i64 y]:=by
  apply List.ext_getElem
  ·rw[s.cl];simp
  ·intro i B J
   rw[(E i (by simpa using J) B).1];simp
 have K:q.flatten=xs.map (Value.int .i64):=by
  rw[H];clear E H D s
  induction xs with
  |nil=>rfl
  |cons a l O=>simp[O]
 rw[K] at D;refine⟨v,rfl,D,fun y T=>?_,rfl⟩;obtain⟨i,I,rfl⟩:=List.mem_iff_getElem.1 T;exact(E i I (by rw[s.cl];exact I)).2
theorem bE.read{base:Nat}{U:TypeId}{xs:List (fZ base U)}(h:bE w0 e w v fps xs)(X:∀x∈xs,x.o.length≤bn):
  ∃B:List (List Nat),bE (α:=List Int) w0 e w v B (xs.map fZ.o)∧B.length=fps.length∧B.flatten.Sublist fps.flatten:=by
 have I:=h.fl;obtain⟨⟨s,Y,D⟩,Z⟩:=h
 have each:∀i,∃fq:List Nat,∀(h:i<xs.length) (E:i<s.length) (J:i<fps.length),Rd.rd (α:=List Int) fq w s[i] xs[i].o∧fq.Sublist fps[i]:=by
  intro i
  by_cases q:i<xs.length
  ·have E:i<s.length:=by rw[D.cl];exact q
   have J:i<fps.length:=by rw[I];exact q
   obtain⟨fq,hr,H⟩:=fZ.read (D.rd i q E J) (X _ (getElem_mem q));exact⟨fq,fun _ _ _=>⟨hr,H⟩⟩
  ·exact⟨[],fun h=>absurd h q⟩
 obtain⟨f,K⟩:=Classical.axiomOfChoice each
 have hsub:∀(l:List (List Nat)) (g:Nat→List Nat),(∀i (h:i<l.length),(g i).Sublist l[i])→((List.range l.length).map g).flatten.Sublist l.flatten:=by
  intro l
  induction l with
  |nil=>intro g _;simp
  |cons a l ih=>
   intro g O
   rw[List.length_cons,List.range_succ_eq_map,List.map_cons,List.flatten_cons,List.flatten_cons,List.map_map];exact(O 0 (by simp)).append (ih (g∘Nat.succ) fun i q=>O (i+1) (by simpa using q))
 have H:=hsub fps f fun i q=>(K i (by omega) (by rw[D.cl];omega) q).2
 refine⟨(List.range fps.length).map f,⟨⟨s,by rw[List.length_map];exact Y,⟨by simp[D.cl],by simp[I],fun i h0 E J=>?_⟩⟩,fun b hb hm=>Z b hb (H.subset hm)⟩,by simp,H⟩;have T:i<xs.length:=by simpa using h0
 simpa using(K i T E (by omega)).1
theorem bE.grow{s:World}{E:TypeId}{xs:List (fZ s.heap.size E)}(h:bE w0 e w v fps xs)(ae:fps.flatten.Nodup)(au:∀b∈fps.flatten,s.heap.size≤b){j:Nat}(hj:j<xs.length):
  ∃g cap B D,v=.slice (some ⟨g,0,none⟩) xs.length cap∧g<w.heap.size∧w0.heap.size≤g∧xs.length≤cap∧w.cell? ⟨g,j,none⟩=some B∧w.frozen? ⟨g,j,none⟩=false∧bE (α:=Int) s E w B D xs[j].o∧D.flatten=[]∧g∉B.ownBlock.toList∧
   (∀O q T,Wr B.ownBlock.toList w O→bE (α:=Int) s E O q (D++[[]]) T→(q.ownBlock=B.ownBlock∨∃n,q.ownBlock=some n∧w.heap.size≤n)→
    ∃H,bE w0 e (O.setCell ⟨g,j,none⟩ q) v H (xs.set j (fZ.mk s.heap.size E T))∧H.flatten.Nodup∧∀b∈H.flatten,s.heap.size≤b):=by
 have hbase:=h.base;have ax:=h.apart;have aj:=h.lt;obtain⟨g,cap,cs,fq,rfl,h1,h2,h3,h4,h5,h6,h7,h8⟩:=h.upd hj;obtain⟨I,U⟩:=List.getElem?_eq_some_iff.1 h4;obtain⟨B,D,rfl,X,hO,ay⟩:=fZ.zP h6;have hsub:∀c∈fq,c∈fps.flatten:=fun c hc=>List.mem_flatten.2 ⟨_,getElem_mem I,by rw[U];exact hc⟩
 have Y:g∉fq:=fun hm=>ax g rfl (hsub g hm)
 have J:Rd.n (fZ s.heap.size E)=1:=rfl;have c1:=h5 0 B rfl;rw[J,mul_one,add_zero] at c1;refine⟨g,cap,B,D,rfl,h2,h1,h3,c1,h7 j,hO,ay,by rw[←X];exact Y,fun O q T hw ah aL=>?_⟩;rw[←X] at hw
 have K:∀c∈q.ownBlock.toList,c∈fq∨w.heap.size≤c:=by
  intro c hc
  rcases aL with e9|⟨n,e9,hn⟩
  ·rw[e9,←X] at hc;exact .inl hc
  ·rw[e9] at hc
   simp at hc;subst hc;exact .inr hn
 have ai:g∉q.ownBlock.toList:=fun hm=>by
  rcases K g hm with h|h
  ·exact Y h
  ·omega
 have hr:Rd.rd q.ownBlock.toList (O.setCell ⟨g,j,none⟩ q) [q] (fZ.mk s.heap.size E T):=Rd.wr ah.xq ((Wr.refl [g] _).setCell (by simp) q) (fun c hc hm=>by simp at hm;subst hm;exact ai hc)
 have h9:=h8 O 0 q q.ownBlock.toList (fZ.mk s.heap.size E T) hw Y (fun k hk aN c hc Z=>by
  have hp:=List.pairwise_iff_getElem.1 (List.pairwise_flatten.1 ae).2;rw[←U] at Z;rcases Nat.lt_or_gt_of_ne aN with aS|aV
  ·exact hp k j hk I aS c hc c Z rfl
  ·exact hp j k I hk aV c Z c hc rfl) (by rw[J];omega) ai (by rw[J,mul_one,add_zero];exact hr)
 rw[J,mul_one,add_zero] at h9;refine⟨_,h9,oU ae I (by cases q.ownBlock<;>simp) fun c hc=>?_,fun b hb=>?_⟩
 ·rcases K c hc with h|h
  ·rw[←U] at h;exact .inl h
  ·exact .inr fun hm=>by have:=aj c hm;omega
 ·rcases gq hb with hb|hb
  ·exact au b hb
  ·exact(ah.base b (by simpa using hb)).1
section
variable{P:Program}
theorem nD{α:Type}[Rd α](hF:oM α){W:World}(U:Gr w W){ops:Array Oper}{o:Oper}{a:Act}{K:Act→World→Prop}{Q:Exit→Act→World→Prop}{E:Prop}(X:o.guard=none)(s x:Operand)(t:TypeId)
  (O:o.op=.call {callee:=.builtin .append,args:=#[s,x],argTypes:=#[t,t]})
  (e:TypeId) (i:TypeInfo) (z:Value) (bytes:Nat) (ht:P.underlying t=some (.slice e)) (hi:P.info? e=some i) (hz:i.zero=some z)
  (hsize:i.size=Rd.n α) (Y:i.bytes=bytes) (Z:z.cells.size=Rd.n α)
  (v:Value) (H:a.eval s=v) (hown:bE (α:=α) w e W v [] []) (hblk:v.ownBlock≠none) (T:Value) (B:List α) (hx:a.eval x=T) (hsrc:SlR fp W T B)
  (hlen:B.length≤1048576) (hbytes:B.length*bytes≤140737488355328)
  (h:∀b c fq y,SlR fq (w.ext y) (.slice (some ⟨b,0,none⟩) B.length c) B→aY w fq→Gr w (w.ext y)→w.heap.size≤b→Wr v.ownBlock.toList W (w.ext y)→(∀c∈fq,v.ownBlock=some c∨W.heap.size≤c)→K (a.put o.dst (.slice (some ⟨b,0,none⟩) B.length c)) (w.ext y)):
  if Region.wanted o (yielded ops a.tmps)=true then Oper.wp P o a W K Q else E:=by
 obtain⟨ae,hS,-,-⟩:=eT.qL hsrc;have J:=hS.flat hF;refine gU (α:=α) (wg:=w) (w0:=w) U (Nat.le_refl _) U.size X s x t O e i z bytes ht hi hz hsize Y Z v [] [] H hown T ae B hx hS (fun b D=>by rw[J];simp) (by simp only[List.length_nil,maxLen];omega) (by simpa using hbytes) ?_;intro v' w' I h2 q h4
 obtain⟨y,rfl⟩:=h4;simp only[List.nil_append] at I
 have h5:∃fq,SlR fq (w.ext y) v' B∧aY w fq∧∀c∈fq,v.ownBlock=some c∨W.heap.size≤c:=by
  obtain⟨fp,H,⟨rfl,rfl⟩|⟨b,D,rfl⟩⟩:=I.slR (by unfold bn;omega)
  ·exact⟨[],H,aY.nil _,by simp⟩
  ·rw[J] at H
   refine⟨_,H,aY.cons (I.base b D).1,fun c hc=>?_⟩;obtain rfl:c=b:=by simpa using hc
   rcases q with q|q
   ·exact .inl (q.symm.trans D)
   ·rw[D] at q;injection q with q;exact .inr (by omega)
 obtain⟨fq,ah,ai,aj⟩:=h5;have D:=I.base
 have hv:∃b c,v'=.slice (some ⟨b,0,none⟩) B.length c:=by
  obtain⟨⟨au,O,hE⟩,ha⟩:=I;rcases O.2 with⟨rfl,h0⟩|⟨g,cap,cur,rfl,_⟩
  ·rcases q with q|q
   ·exact absurd q.symm hblk
   ·simp[Value.ownBlock] at q
  ·exact⟨g,cap,rfl⟩
 obtain⟨b,c,rfl⟩:=hv;exact h b c fq y ah ai ⟨y,rfl⟩ (D b rfl).1 h2 aj
end
theorem sF{α:Type}[Rd α]{xs:List α}(h:bE w0 e w v fps xs)(q:b<w0.heap.size):b∉v.ownBlock.toList:=by
 intro hm
 have:=(h.base b (by simpa using hm)).1;omega
theorem Wr.aO(h:Wr fp w w')(hc:w.cell? ⟨b,o,none⟩=some v)(q:b∉fp):w'.cell? ⟨b,o,none⟩=some v:=
 (World.cell?_of_block (a:=⟨b,o,none⟩) (h.block b (blk hc) q)).trans hc
theorem bE.GQ{α:Type}[Rd α]{xs:List α}(h:bE w0 e w v fps xs)(q:aY w0 fps.flatten)(s:b<w0.heap.size):bE w0 e (w.setCell ⟨b,o,none⟩ u) v fps xs:=
 h.wr ((Wr.refl [b] w).setCell (by simp) u) (fun c hc hm=>by
  obtain rfl:c=b:=by simpa using hm
  have:=q.2 c hc;omega) (fun c hc hm=>by
  obtain rfl:c=b:=by simpa using hm
  have:=(h.base c hc).1;omega)
theorem SlR.setAt{α:Type}[Rd α]{fq:List Nat}{xs:List α}(h:SlR fq w v xs)(q:b∉fq):SlR fq (w.setCell ⟨b,o,none⟩ u) v xs:=
 h.wr ((Wr.refl [b] w).setCell (by simp) u) (fun c hc hm=>by
  obtain rfl:c=b:=by simpa using hm
  exact q hc)
theorem az.new{A:World}{n:Nat}(h:n=A.heap.size):az (A.alloc (.cells vs.toArray t)) n t vs:=by subst h;exact heap_alloc_new A _
theorem kv{B:World}{a:Nat}{v:List Value}(h:az B a t v:=by repeat(first|((with_reducible refine az.new ?_)<;>first|omega|(simp;done)|(simp;omega)|rfl)|(with_reducible refine az.gr ?_ (Gr.alloc (Gr.refl _) _))|(with_reducible refine az.gr ?_ (Gr.ext (Gr.refl _) _))|(with_reducible refine az.gr ?_ (Gr.drew (Gr.refl _))))):az B a t v:=h
theorem az.nR(h:az w b t [a0,a1])(v0 v1:Value):az ((w.setCell ⟨b,0,none⟩ v0).setCell ⟨b,1,none⟩ v1) b t [v0,v1]:=(az.set (az.set h 0 v0) 1 v1)
theorem Gr.nR(h:Gr w0 w)(q:w0.heap.size≤b)(v0 v1:Value):Gr w0 ((w.setCell ⟨b,0,none⟩ v0).setCell ⟨b,1,none⟩ v1):=(Gr.setCell (p:=⟨b,1,none⟩) (Gr.setCell (p:=⟨b,0,none⟩) h q v0) q v1)
theorem Wr.nR(w:World)(b:Nat)(v0 v1:Value):Wr [b] w ((w.setCell ⟨b,0,none⟩ v0).setCell ⟨b,1,none⟩ v1):=(Wr.setCell (Wr.setCell (Wr.refl [b] w) (List.mem_singleton.2 rfl) v0) (List.mem_singleton.2 rfl) v1)
theorem az.ic(h:az w b t [a0,a1,a2,a3,a4,a5,a6,a7])(v0 v1 v2 q v4 s v6 B:Value):az ((((((((w.setCell ⟨b,0,none⟩ v0).setCell ⟨b,1,none⟩ v1).setCell ⟨b,2,none⟩ v2).setCell ⟨b,3,none⟩ q).setCell ⟨b,4,none⟩ v4).setCell ⟨b,5,none⟩ s).setCell ⟨b,6,none⟩ v6).setCell ⟨b,7,none⟩ B) b t [v0,v1,v2,q,v4,s,v6,B]:=(az.set (az.set (az.set (az.set (az.set (az.set (az.set (az.set h 0 v0) 1 v1) 2 v2) 3 q) 4 v4) 5 s) 6 v6) 7 B)
theorem Gr.ic(h:Gr w0 w)(q:w0.heap.size≤b)(v0 v1 v2 s v4 B v6 D:Value):Gr w0 ((((((((w.setCell ⟨b,0,none⟩ v0).setCell ⟨b,1,none⟩ v1).setCell ⟨b,2,none⟩ v2).setCell ⟨b,3,none⟩ s).setCell ⟨b,4,none⟩ v4).setCell ⟨b,5,none⟩ B).setCell ⟨b,6,none⟩ v6).setCell ⟨b,7,none⟩ D):=(Gr.setCell (p:=⟨b,7,none⟩) (Gr.setCell (p:=⟨b,6,none⟩) (Gr.setCell (p:=⟨b,5,none⟩) (Gr.setCell (p:=⟨b,4,none⟩) (Gr.setCell (p:=⟨b,3,none⟩) (Gr.setCell (p:=⟨b,2,none⟩) (Gr.setCell (p:=⟨b,1,none⟩) (Gr.setCell (p:=⟨b,0,none⟩) h q v0) q v1) q v2) q s) q v4) q B) q v6) q D)
theorem Wr.ic(w:World)(b:Nat)(v0 v1 v2 h v4 q v6 s:Value):Wr [b] w ((((((((w.setCell ⟨b,0,none⟩ v0).setCell ⟨b,1,none⟩ v1).setCell ⟨b,2,none⟩ v2).setCell ⟨b,3,none⟩ h).setCell ⟨b,4,none⟩ v4).setCell ⟨b,5,none⟩ q).setCell ⟨b,6,none⟩ v6).setCell ⟨b,7,none⟩ s):=(Wr.setCell (Wr.setCell (Wr.setCell (Wr.setCell (Wr.setCell (Wr.setCell (Wr.setCell (Wr.setCell (Wr.refl [b] w) (List.mem_singleton.2 rfl) v0) (List.mem_singleton.2 rfl) v1) (List.mem_singleton.2 rfl) v2) (List.mem_singleton.2 rfl) h) (List.mem_singleton.2 rfl) v4) (List.mem_singleton.2 rfl) q) (List.mem_singleton.2 rfl) v6) (List.mem_singleton.2 rfl) s)
def U8:Type:=Int
def U8.val(x:U8):Int:=x
instance:Rd U8 where
 n:=1
 pos:=by omega
 rd fp _ cs x:=fp=[]∧cs=[.int .u8 x.val]∧(Lit.int .u8 x.val).wf=true
 len h:=by simp[h.2.1]
 lt h:=by simp[h.1]
 mono _ h:=h
 one h u hu:=by rw[h.2.1] at hu;simp at hu;subst hu;rfl
structure TestAttribute(w:World)(fid:Nat)(cap:Array Value)(p:aQ→Bool)(xs:List aQ):Prop where
 fn:∀args W,(callFunc fid args).run Tryz.prog W=.ok (.enter fid args) W
 calls:∀y∈xs,∀(x:Ext) (fp:List Nat) (cs:Array Value),Rd.rd fp (w.ext x) cs.toList y→Calls Tryz.prog fid (#[.agg cs]++cap) (w.ext x) fun e w'=>e=.returned (.bool (p y))∧Gr (w.ext x) w'
theorem nA(fp:List Nat)(u:Value)(xs:List aQ)(B:Nat)(cap:Array Value)(p:aQ→Bool)(w:World)(hu:SlR fp w u xs)(Y:TestAttribute w B cap p xs):
  Qz 207 #[u,.func (.func B) #[] cap] w (.int .i64 (idxOf p xs)):=by
 obtain⟨a,ca,rfl,h1,h2,O⟩:=hu.open;obtain⟨ae,q⟩:=Y;have Z:=Kz q;clear q;delta Qz;go_in
 go_wp2
 go_loopw [8,5] (fun D s5 wr=>∃k:Nat,k≤xs.length∧(∀j (h:j<xs.length),j<k→p xs[j]=false)∧Gr w wr∧D=.int .i64 k) (fun D s5 _=>xs.length - (intOf D).toNat)
 case atStart=>exact⟨0,by omega,by omega,Gr.refl w,rfl⟩
 case round=>
  obtain⟨k,hk,T,⟨x,rfl⟩,rfl⟩:=hrel;have E:=Kz T;clear T
  by_cases s:k<xs.length
  ·obtain⟨b,off,rfl,hb⟩:=O k s
   obtain⟨q0,q1,q2,q3,U,X,-,-,-,z0,z1,z2,z3,-⟩:=K5 hu s (Gr.refl _);have H:=Lb U X;clear O;go_wp2_with fail;refine(Z.o _ (getElem_mem s) _ _ _ (Rd.gr H gd)).mono ?_;rintro e w2 ⟨rfl,x2,rfl⟩
   go_wp2
   ·have I:p xs[k]=true:=by assumption
    go_ret;exact⟨aC (iH s I E.o).symm,gd⟩
   ·have I:p xs[k]=false:=by assumption
    refine⟨⟨k+1,by omega,fun j J ah=>?_,gd,by go_num⟩,by simp[intOf];omega⟩
    by_cases K:j<k
    ·exact E.o j J K
    ·obtain rfl:j=k:=by omega
     exact I
  ·go_wp2
   go_ret;exact⟨aC (gu fun j J=>E.o j J (by omega)).symm,gd⟩
theorem gW(fp:List Nat)(u:Value)(xs:List aQ)(h:Nat)(cap:Array Value)(p:aQ→Bool)(w:World)(hu:SlR fp w u xs)(q:TestAttribute w h cap p xs):
  Qz 142 #[u,.func (.func h) #[] cap] w (.bool (xs.any p)):=by
 delta Qz;go_in
 go_wp2_with (go_at_call 207;refine(nA fp _ _ _ _ _ _ hu q).mono ?_;rintro e w1 ⟨rfl,s⟩)
 go_ret;refine⟨aa ?_,by assumption⟩;rw[Bool.eq_iff_iff,decide_eq_true_iff];exact iW
structure TestSymbol(w:World)(fid:Nat)(cap:Array Value)(p:bC→Bool)(xs:List bC):Prop where
 fn:∀args W,(callFunc fid args).run Tryz.prog W=.ok (.enter fid args) W
 calls:∀y∈xs,∀(x:Ext) (fp:List Nat) (cs:Array Value),Rd.rd fp (w.ext x) cs.toList y→Calls Tryz.prog fid (#[.agg cs]++cap) (w.ext x) fun e w'=>e=.returned (.bool (p y))∧Gr (w.ext x) w'
theorem pK(fp:List Nat)(u:Value)(xs:List bC)(B:Nat)(cap:Array Value)(p:bC→Bool)(w:World)(hu:SlR fp w u xs)(Y:TestSymbol w B cap p xs):
  Qz 206 #[u,.func (.func B) #[] cap] w (.int .i64 (idxOf p xs)):=by
 obtain⟨a,ca,rfl,h1,h2,O⟩:=hu.open;obtain⟨ae,q⟩:=Y;have Z:=Kz q;clear q;delta Qz;go_in
 go_wp2
 go_loopw [8,5] (fun D s5 wr=>∃k:Nat,k≤xs.length∧(∀j (h:j<xs.length),j<k→p xs[j]=false)∧Gr w wr∧D=.int .i64 k) (fun D s5 _=>xs.length - (intOf D).toNat)
 case atStart=>exact⟨0,by omega,by omega,Gr.refl w,rfl⟩
 case round=>
  obtain⟨k,hk,T,⟨x,rfl⟩,rfl⟩:=hrel;have E:=Kz T;clear T
  by_cases s:k<xs.length
  ·obtain⟨b,off,rfl,hb⟩:=O k s
   obtain⟨q0,q1,ah,ai,aj,au,U,X,-,ax,-,-,z0,z1,-⟩:=K9 hu s (Gr.refl _);have H:=Lb U X;clear O;go_wp2_with fail;refine(Z.o _ (getElem_mem s) _ _ _ (Rd.gr H gd)).mono ?_;rintro e w2 ⟨rfl,x2,rfl⟩
   go_wp2
   ·have I:p xs[k]=true:=by assumption
    go_ret;exact⟨aC (iH s I E.o).symm,gd⟩
   ·have I:p xs[k]=false:=by assumption
    refine⟨⟨k+1,by omega,fun j J ay=>?_,gd,by go_num⟩,by simp[intOf];omega⟩
    by_cases K:j<k
    ·exact E.o j J K
    ·obtain rfl:j=k:=by omega
     exact I
  ·go_wp2
   go_ret;exact⟨aC (gu fun j J=>E.o j J (by omega)).symm,gd⟩
theorem nk(fp:List Nat)(u:Value)(xs:List bC)(h:Nat)(cap:Array Value)(p:bC→Bool)(w:World)(hu:SlR fp w u xs)(q:TestSymbol w h cap p xs):
  Qz 140 #[u,.func (.func h) #[] cap] w (.bool (xs.any p)):=by
 delta Qz;go_in
 go_wp2_with (go_at_call 206;refine(pK fp _ _ _ _ _ _ hu q).mono ?_;rintro e w1 ⟨rfl,s⟩)
 go_ret;refine⟨aa ?_,by assumption⟩;rw[Bool.eq_iff_iff,decide_eq_true_iff];exact iW
abbrev J8:=ByteArray×Int×List Int
instance decCell:DecidableEq J8:=@instDecidableEqProd _ _ _ (@instDecidableEqProd _ _ _ (inferInstance))
end Go.Proofs.YtdhighcpmcdmmaaGreat
