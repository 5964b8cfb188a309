/- Contracts and laws towards ReadsOf, part 8 of 54. No condition. -/
import Derived.Test.YtleafadpfeibfaaGreatRx06
import Derived.Lib.SliceRun
import Derived.Test.YtleafadpfeibfaaGreatRx05
import Derived.Laws.EntriesVeiled
set_option maxHeartbeats 32000000
set_option maxRecDepth 10000
set_option linter.unusedVariables false
set_option linter.unusedSimpArgs false
namespace Go.Proofs.YtleafadpfeibfaaGreat
open Go.RowKit
open _root_.List (getElem_mem)
open _root_.Nat (add_zero le_trans mul_one)
variable{w w0 w':World}{b o k:Nat}{t e:TypeId}{a0 a1 a2 a3 a4 a5 a6 a7 v a8 a9 a10 a11 a12 a13 u:Value}{r vs:List Value}{fps:List (List Nat)}{fp fq:List Nat}{xs:List Int}
def az(w:World)(b:Nat)(t:TypeId)(vs:List Value):Prop:=w.heap[b]?=some (.cells vs.toArray t)
theorem az.lt(h:az w b t vs):b<w.heap.size:=(Array.getElem?_eq_some_iff.1 h).1
theorem az.cell(h:az w b t vs)(hk:k<vs.length):w.cell? ⟨b,k,none⟩=some vs[k]:=by
 rw[cell_of_row w b k _ t (0,0) h];simp[hk]
theorem az.c2(h:az w b t (a0::a1::r)):w.cell? ⟨b,0,none⟩=some a0∧w.cell? ⟨b,1,none⟩=some a1:=⟨h.cell (k:=0) (by simp),h.cell (k:=1) (by simp)⟩
theorem az.c3(h:az w b t (a0::a1::a2::r)):w.cell? ⟨b,0,none⟩=some a0∧w.cell? ⟨b,1,none⟩=some a1∧w.cell? ⟨b,2,none⟩=some a2:=⟨h.cell (k:=0) (by simp),h.cell (k:=1) (by simp),h.cell (k:=2) (by simp)⟩
theorem az.c4(h:az w b t (a0::a1::a2::a3::r)):w.cell? ⟨b,0,none⟩=some a0∧w.cell? ⟨b,1,none⟩=some a1∧w.cell? ⟨b,2,none⟩=some a2∧w.cell? ⟨b,3,none⟩=some a3:=⟨h.cell (k:=0) (by simp),h.cell (k:=1) (by simp),h.cell (k:=2) (by simp),h.cell (k:=3) (by simp)⟩
theorem az.c5(h:az w b t (a0::a1::a2::a3::a4::r)):w.cell? ⟨b,0,none⟩=some a0∧w.cell? ⟨b,1,none⟩=some a1∧w.cell? ⟨b,2,none⟩=some a2∧w.cell? ⟨b,3,none⟩=some a3∧w.cell? ⟨b,4,none⟩=some a4:=⟨h.cell (k:=0) (by simp),h.cell (k:=1) (by simp),h.cell (k:=2) (by simp),h.cell (k:=3) (by simp),h.cell (k:=4) (by simp)⟩
theorem az.c6(h:az w b t (a0::a1::a2::a3::a4::a5::r)):w.cell? ⟨b,0,none⟩=some a0∧w.cell? ⟨b,1,none⟩=some a1∧w.cell? ⟨b,2,none⟩=some a2∧w.cell? ⟨b,3,none⟩=some a3∧w.cell? ⟨b,4,none⟩=some a4∧w.cell? ⟨b,5,none⟩=some a5:=⟨h.cell (k:=0) (by simp),h.cell (k:=1) (by simp),h.cell (k:=2) (by simp),h.cell (k:=3) (by simp),h.cell (k:=4) (by simp),h.cell (k:=5) (by simp)⟩
theorem az.c7(h:az w b t (a0::a1::a2::a3::a4::a5::a6::r)):w.cell? ⟨b,0,none⟩=some a0∧w.cell? ⟨b,1,none⟩=some a1∧w.cell? ⟨b,2,none⟩=some a2∧w.cell? ⟨b,3,none⟩=some a3∧w.cell? ⟨b,4,none⟩=some a4∧w.cell? ⟨b,5,none⟩=some a5∧w.cell? ⟨b,6,none⟩=some a6:=⟨h.cell (k:=0) (by simp),h.cell (k:=1) (by simp),h.cell (k:=2) (by simp),h.cell (k:=3) (by simp),h.cell (k:=4) (by simp),h.cell (k:=5) (by simp),h.cell (k:=6) (by simp)⟩
theorem az.c8(h:az w b t (a0::a1::a2::a3::a4::a5::a6::a7::r)):w.cell? ⟨b,0,none⟩=some a0∧w.cell? ⟨b,1,none⟩=some a1∧w.cell? ⟨b,2,none⟩=some a2∧w.cell? ⟨b,3,none⟩=some a3∧w.cell? ⟨b,4,none⟩=some a4∧w.cell? ⟨b,5,none⟩=some a5∧w.cell? ⟨b,6,none⟩=some a6∧w.cell? ⟨b,7,none⟩=some a7:=⟨h.cell (k:=0) (by simp),h.cell (k:=1) (by simp),h.cell (k:=2) (by simp),h.cell (k:=3) (by simp),h.cell (k:=4) (by simp),h.cell (k:=5) (by simp),h.cell (k:=6) (by simp),h.cell (k:=7) (by simp)⟩
theorem az.c9(h:az w b t (a0::a1::a2::a3::a4::a5::a6::a7::a8::r)):w.cell? ⟨b,0,none⟩=some a0∧w.cell? ⟨b,1,none⟩=some a1∧w.cell? ⟨b,2,none⟩=some a2∧w.cell? ⟨b,3,none⟩=some a3∧w.cell? ⟨b,4,none⟩=some a4∧w.cell? ⟨b,5,none⟩=some a5∧w.cell? ⟨b,6,none⟩=some a6∧w.cell? ⟨b,7,none⟩=some a7∧w.cell? ⟨b,8,none⟩=some a8:=⟨h.cell (k:=0) (by simp),h.cell (k:=1) (by simp),h.cell (k:=2) (by simp),h.cell (k:=3) (by simp),h.cell (k:=4) (by simp),h.cell (k:=5) (by simp),h.cell (k:=6) (by simp),h.cell (k:=7) (by simp),h.cell (k:=8) (by simp)⟩
theorem az.c10(h:az w b t (a0::a1::a2::a3::a4::a5::a6::a7::a8::a9::r)):w.cell? ⟨b,0,none⟩=some a0∧w.cell? ⟨b,1,none⟩=some a1∧w.cell? ⟨b,2,none⟩=some a2∧w.cell? ⟨b,3,none⟩=some a3∧w.cell? ⟨b,4,none⟩=some a4∧w.cell? ⟨b,5,none⟩=some a5∧w.cell? ⟨b,6,none⟩=some a6∧w.cell? ⟨b,7,none⟩=some a7∧w.cell? ⟨b,8,none⟩=some a8∧w.cell? ⟨b,9,none⟩=some a9:=⟨h.cell (k:=0) (by simp),h.cell (k:=1) (by simp),h.cell (k:=2) (by simp),h.cell (k:=3) (by simp),h.cell (k:=4) (by simp),h.cell (k:=5) (by simp),h.cell (k:=6) (by simp),h.cell (k:=7) (by simp),h.cell (k:=8) (by simp),h.cell (k:=9) (by simp)⟩
theorem az.c11(h:az w b t (a0::a1::a2::a3::a4::a5::a6::a7::a8::a9::a10::r)):w.cell? ⟨b,0,none⟩=some a0∧w.cell? ⟨b,1,none⟩=some a1∧w.cell? ⟨b,2,none⟩=some a2∧w.cell? ⟨b,3,none⟩=some a3∧w.cell? ⟨b,4,none⟩=some a4∧w.cell? ⟨b,5,none⟩=some a5∧w.cell? ⟨b,6,none⟩=some a6∧w.cell? ⟨b,7,none⟩=some a7∧w.cell? ⟨b,8,none⟩=some a8∧w.cell? ⟨b,9,none⟩=some a9∧w.cell? ⟨b,10,none⟩=some a10:=⟨h.cell (k:=0) (by simp),h.cell (k:=1) (by simp),h.cell (k:=2) (by simp),h.cell (k:=3) (by simp),h.cell (k:=4) (by simp),h.cell (k:=5) (by simp),h.cell (k:=6) (by simp),h.cell (k:=7) (by simp),h.cell (k:=8) (by simp),h.cell (k:=9) (by simp),h.cell (k:=10) (by simp)⟩
theorem az.c12(h:az w b t (a0::a1::a2::a3::a4::a5::a6::a7::a8::a9::a10::a11::r)):w.cell? ⟨b,0,none⟩=some a0∧w.cell? ⟨b,1,none⟩=some a1∧w.cell? ⟨b,2,none⟩=some a2∧w.cell? ⟨b,3,none⟩=some a3∧w.cell? ⟨b,4,none⟩=some a4∧w.cell? ⟨b,5,none⟩=some a5∧w.cell? ⟨b,6,none⟩=some a6∧w.cell? ⟨b,7,none⟩=some a7∧w.cell? ⟨b,8,none⟩=some a8∧w.cell? ⟨b,9,none⟩=some a9∧w.cell? ⟨b,10,none⟩=some a10∧w.cell? ⟨b,11,none⟩=some a11:=⟨h.cell (k:=0) (by simp),h.cell (k:=1) (by simp),h.cell (k:=2) (by simp),h.cell (k:=3) (by simp),h.cell (k:=4) (by simp),h.cell (k:=5) (by simp),h.cell (k:=6) (by simp),h.cell (k:=7) (by simp),h.cell (k:=8) (by simp),h.cell (k:=9) (by simp),h.cell (k:=10) (by simp),h.cell (k:=11) (by simp)⟩
theorem az.c13(h:az w b t (a0::a1::a2::a3::a4::a5::a6::a7::a8::a9::a10::a11::a12::r)):w.cell? ⟨b,0,none⟩=some a0∧w.cell? ⟨b,1,none⟩=some a1∧w.cell? ⟨b,2,none⟩=some a2∧w.cell? ⟨b,3,none⟩=some a3∧w.cell? ⟨b,4,none⟩=some a4∧w.cell? ⟨b,5,none⟩=some a5∧w.cell? ⟨b,6,none⟩=some a6∧w.cell? ⟨b,7,none⟩=some a7∧w.cell? ⟨b,8,none⟩=some a8∧w.cell? ⟨b,9,none⟩=some a9∧w.cell? ⟨b,10,none⟩=some a10∧w.cell? ⟨b,11,none⟩=some a11∧w.cell? ⟨b,12,none⟩=some a12:=⟨h.cell (k:=0) (by simp),h.cell (k:=1) (by simp),h.cell (k:=2) (by simp),h.cell (k:=3) (by simp),h.cell (k:=4) (by simp),h.cell (k:=5) (by simp),h.cell (k:=6) (by simp),h.cell (k:=7) (by simp),h.cell (k:=8) (by simp),h.cell (k:=9) (by simp),h.cell (k:=10) (by simp),h.cell (k:=11) (by simp),h.cell (k:=12) (by simp)⟩
theorem az.c14(h:az w b t (a0::a1::a2::a3::a4::a5::a6::a7::a8::a9::a10::a11::a12::a13::r)):w.cell? ⟨b,0,none⟩=some a0∧w.cell? ⟨b,1,none⟩=some a1∧w.cell? ⟨b,2,none⟩=some a2∧w.cell? ⟨b,3,none⟩=some a3∧w.cell? ⟨b,4,none⟩=some a4∧w.cell? ⟨b,5,none⟩=some a5∧w.cell? ⟨b,6,none⟩=some a6∧w.cell? ⟨b,7,none⟩=some a7∧w.cell? ⟨b,8,none⟩=some a8∧w.cell? ⟨b,9,none⟩=some a9∧w.cell? ⟨b,10,none⟩=some a10∧w.cell? ⟨b,11,none⟩=some a11∧w.cell? ⟨b,12,none⟩=some a12∧w.cell? ⟨b,13,none⟩=some a13:=⟨h.cell (k:=0) (by simp),h.cell (k:=1) (by simp),h.cell (k:=2) (by simp),h.cell (k:=3) (by simp),h.cell (k:=4) (by simp),h.cell (k:=5) (by simp),h.cell (k:=6) (by simp),h.cell (k:=7) (by simp),h.cell (k:=8) (by simp),h.cell (k:=9) (by simp),h.cell (k:=10) (by simp),h.cell (k:=11) (by simp),h.cell (k:=12) (by simp),h.cell (k:=13) (by simp)⟩
theorem az.c15{q:Value}(h:az w b t (a0::a1::a2::a3::a4::a5::a6::a7::a8::a9::a10::a11::a12::a13::q::r)):w.cell? ⟨b,0,none⟩=some a0∧w.cell? ⟨b,1,none⟩=some a1∧w.cell? ⟨b,2,none⟩=some a2∧w.cell? ⟨b,3,none⟩=some a3∧w.cell? ⟨b,4,none⟩=some a4∧w.cell? ⟨b,5,none⟩=some a5∧w.cell? ⟨b,6,none⟩=some a6∧w.cell? ⟨b,7,none⟩=some a7∧w.cell? ⟨b,8,none⟩=some a8∧w.cell? ⟨b,9,none⟩=some a9∧w.cell? ⟨b,10,none⟩=some a10∧w.cell? ⟨b,11,none⟩=some a11∧w.cell? ⟨b,12,none⟩=some a12∧w.cell? ⟨b,13,none⟩=some a13∧w.cell? ⟨b,14,none⟩=some q:=⟨h.cell (k:=0) (by simp),h.cell (k:=1) (by simp),h.cell (k:=2) (by simp),h.cell (k:=3) (by simp),h.cell (k:=4) (by simp),h.cell (k:=5) (by simp),h.cell (k:=6) (by simp),h.cell (k:=7) (by simp),h.cell (k:=8) (by simp),h.cell (k:=9) (by simp),h.cell (k:=10) (by simp),h.cell (k:=11) (by simp),h.cell (k:=12) (by simp),h.cell (k:=13) (by simp),h.cell (k:=14) (by simp)⟩
theorem az.c16{q B:Value}(h:az w b t (a0::a1::a2::a3::a4::a5::a6::a7::a8::a9::a10::a11::a12::a13::q::B::r)):w.cell? ⟨b,0,none⟩=some a0∧w.cell? ⟨b,1,none⟩=some a1∧w.cell? ⟨b,2,none⟩=some a2∧w.cell? ⟨b,3,none⟩=some a3∧w.cell? ⟨b,4,none⟩=some a4∧w.cell? ⟨b,5,none⟩=some a5∧w.cell? ⟨b,6,none⟩=some a6∧w.cell? ⟨b,7,none⟩=some a7∧w.cell? ⟨b,8,none⟩=some a8∧w.cell? ⟨b,9,none⟩=some a9∧w.cell? ⟨b,10,none⟩=some a10∧w.cell? ⟨b,11,none⟩=some a11∧w.cell? ⟨b,12,none⟩=some a12∧w.cell? ⟨b,13,none⟩=some a13∧w.cell? ⟨b,14,none⟩=some q∧w.cell? ⟨b,15,none⟩=some B:=⟨h.cell (k:=0) (by simp),h.cell (k:=1) (by simp),h.cell (k:=2) (by simp),h.cell (k:=3) (by simp),h.cell (k:=4) (by simp),h.cell (k:=5) (by simp),h.cell (k:=6) (by simp),h.cell (k:=7) (by simp),h.cell (k:=8) (by simp),h.cell (k:=9) (by simp),h.cell (k:=10) (by simp),h.cell (k:=11) (by simp),h.cell (k:=12) (by simp),h.cell (k:=13) (by simp),h.cell (k:=14) (by simp),h.cell (k:=15) (by simp)⟩
theorem az.c(h:az w b t vs)(k:Nat)(hk:k<vs.length:=by simp):w.cell? ⟨b,k,none⟩=some vs[k]:=h.cell hk
theorem az.frozen(h:az w b t vs)(k:Nat):w.frozen? ⟨b,k,none⟩=false:=jB h k
theorem az.keep(h:az w b t vs)(e:w'.heap[b]?=w.heap[b]?):az w' b t vs:=e.trans h
theorem az.gr(h:az w b t vs)(hg:Gr w w'):az w' b t vs:=h.keep (hg.below.block b h.lt)
theorem az.wr(h:az w b t vs)(hw:Wr fp w w')(hb:b∉fp):az w' b t vs:=h.keep (hw.block b h.lt hb)
theorem az.set(h:az w b t vs)(k:Nat)(u:Value):az (w.setCell ⟨b,k,none⟩ u) b t (vs.set k u):=by
 unfold az at*;unfold World.setCell;simp only[Array.getElem?_modify,if_pos];rw[h];simp
theorem az.ne{c:Nat}(h:az w b t vs)(hc:b≠c):az (w.setCell ⟨c,k,none⟩ u) b t vs:=h.keep (heap_setCell hc)
theorem az.box(h:az w b t [v]):w.cell? ⟨b,0,none⟩=some v:=h.c 0
def jZ(w:World)(b:Nat)(t:TypeId)(xs:List Int):Prop:=az w b t (xs.map (Value.int .i64))
theorem jZ.lt(h:jZ w b t xs):b<w.heap.size:=az.lt h
theorem jZ.cell(h:jZ w b t xs)(hk:k<xs.length):w.cell? ⟨b,k,none⟩=some (.int .i64 xs[k]):=by
 have:=az.cell h (k:=k) (by simpa using hk);simpa using this
theorem jZ.set(h:jZ w b t xs)(k:Nat)(y:Int):jZ (w.setCell ⟨b,k,none⟩ (.int .i64 y)) b t (xs.set k y):=by
 have:=az.set h k (.int .i64 y);unfold jZ
 rwa [List.map_set]
theorem jZ.made(w:World)(n:Nat)(t:TypeId):jZ (w.alloc (.cells (madeCells #[.int .i64 0] n) t)) w.heap.size t (List.replicate n 0):=by
 unfold jZ az;rw[heap_alloc_new]
 congr 2
 apply Array.toList_inj.1;rw[toList_madeCells_one];simp
theorem ownB{g n c:Nat}(h:(Value.slice (some ⟨g,o,none⟩) n c).ownBlock=some b):g=b:=by injection h
theorem bE.same{α:Type}[Rd α]{xs:List α}(h:bE w0 e w v fps xs)(h1:∀b∈fps.flatten,w'.heap[b]?=w.heap[b]?)(D:∀b,v.ownBlock=some b→w'.heap[b]?=w.heap[b]?):bE w0 e w' v fps xs:=by
 obtain⟨⟨q,B,I⟩,J⟩:=h;refine⟨⟨q,⟨B.1,?_⟩,I.mono h1⟩,J⟩;rcases B.2 with K|⟨g,cap,cur,rfl,hb,hg,hr⟩
 ·exact .inl K
 ·exact .inr ⟨g,cap,cur,rfl,hb,by rw[D g rfl];exact hg,hr⟩
theorem eT.gr{α:Type}[Rd α]{x:Value}{q:List (List Nat)}{B:List α}(h:eT w x q B)(hg:Gr w w'):eT w' x q B:=by
 rcases h with h|⟨b,off,c,D,rfl,I,hc⟩
 ·exact .inl h
 ·exact .inr ⟨b,off,c,D,rfl,I.mono (hg.lN I.lt),fun j u J=>hg.keep (hc j u J)⟩
section
variable{P:Program}
theorem gU{α:Type}[Rd α]{wg:World}(Y:Gr wg w)(D:wg.heap.size≤w0.heap.size)(I:w0.heap.size≤w.heap.size){ops:Array Oper}{o:Oper}{a:Act}{K:Act→World→Prop}{Q:Exit→Act→World→Prop}{E:Prop}(J:o.guard=none)(s x:Operand)(t:TypeId)
  (Z:o.op=.call {callee:=.builtin .append,args:=#[s,x],argTypes:=#[t,t]})
  (e:TypeId) (i:TypeInfo) (z:Value) (bytes:Nat) (ht:P.underlying t=some (.slice e)) (hi:P.info? e=some i) (hz:i.zero=some z)
  (hsize:i.size=Rd.n α) (O:i.bytes=bytes) (T:z.cells.size=Rd.n α)
  (v:Value) (fps:List (List Nat)) (xs:List α) (hs:a.eval s=v) (hown:bE w0 e w v fps xs)
  (U:Value) (q:List (List Nat)) (B:List α) (hx:a.eval x=U) (hsrc:eT w U q B) (V:∀b,v.ownBlock=some b→b∉q.flatten)
  (X:xs.length+B.length≤maxLen) (hbytes:(xs.length+B.length)*bytes≤140737488355328)
  (hK:∀h w',bE w0 e w' h (fps++q) (xs++B)→Wr v.ownBlock.toList w w'→(h.ownBlock=v.ownBlock∨h.ownBlock=some w.heap.size)→Gr wg w'→K (a.put o.dst h) w'):
  if Region.wanted o (yielded ops a.tmps)=true then Oper.wp P o a w K Q else E:=by
 have hw:Region.wanted o (yielded ops a.tmps)=true:=by simp[Region.wanted,J]
 rw[if_pos hw];obtain⟨h,w',hr,h2,h3,h4,h5,h6⟩:=mO (P:=P) Y D I t o.type e i z bytes ht hi hz hsize O T hown hsrc V X hbytes;unfold Oper.wp;simp only[execOp,Z,resolve,invoke,builtin,Sem.run_bind,Sem.run_pure,Result.andThen_ok,List.map_toArray,List.map_cons,List.map_nil,hs,hx,hr];exact hK h w' h2 (Wr.CB h3 h6) h4 h5
end
theorem fZ.zP{cs:List Value}{x:fZ w0.heap.size e}(h:Rd.rd fq w cs x):∃v fps,cs=[v]∧fq=v.ownBlock.toList∧bE (α:=Int) w0 e w v fps x.o∧fps.flatten=[]:=by
 obtain⟨v,rfl,h,q,rfl⟩:=h;refine⟨v,List.replicate x.o.length [],rfl,rfl,⟨⟨x.o.map fun y=>[Value.int .i64 y],?_,?_⟩,by simp⟩,by simp⟩
 ·have B:(x.o.map fun y=>[Value.int .i64 y]).flatten=x.o.map (Value.int .i64):=by
   induction x.o with
   |nil=>rfl
   |cons a l D=>simp[D]
  rw[B];exact h
 ·exact⟨by simp,by simp,fun i I h1 J=>by simpa using rO (q _ (getElem_mem I)) w⟩
theorem bE.xq(h:bE (α:=Int) w0 e w v fps xs):Rd.rd v.ownBlock.toList w [v] (fZ.mk w0.heap.size e xs):=by
 obtain⟨⟨q,D,B⟩,-⟩:=h;have I:∀i (h:i<xs.length) (h1:i<q.length),q[i]=[Value.int .i64 xs[i]]∧(Lit.int .i64 xs[i]).wf=true:=fun i h h1=>(B.rd i h h1 (by rw[B.fl];exact h)).2
 have J:q=xs.map fun y=>[Value.int .i64 y]:=by
  apply List.ext_getElem
  ·rw[B.cl];simp
  ·intro i h1 K
   rw[(I i (by simpa using K) h1).1];simp
 have O:q.flatten=xs.map (Value.int .i64):=by
  rw[J];clear I J D B
  induction xs with
  |nil=>rfl
  |cons a l T=>simp[T]
 rw[O] at D;refine⟨v,rfl,D,fun y U=>?_,rfl⟩;obtain⟨i,hi,rfl⟩:=List.mem_iff_getElem.1 U;exact(I i hi (by rw[B.cl];exact hi)).2
theorem bE.read{base:Nat}{T:TypeId}{xs:List (fZ base T)}(h:bE w0 e w v fps xs)(U:∀x∈xs,x.o.length≤bn):
  ∃B:List (List Nat),bE (α:=List Int) w0 e w v B (xs.map fZ.o)∧B.length=fps.length∧B.flatten.Sublist fps.flatten:=by
 have I:=h.fl;obtain⟨⟨q,V,D⟩,X⟩:=h
 have each:∀i,∃fq:List Nat,∀(h:i<xs.length) (h1:i<q.length) (J:i<fps.length),Rd.rd (α:=List Int) fq w q[i] xs[i].o∧fq.Sublist fps[i]:=by
  intro i
  by_cases hi:i<xs.length
  ·have h1:i<q.length:=by rw[D.cl];exact hi
   have J:i<fps.length:=by rw[I];exact hi
   obtain⟨fq,hr,hs⟩:=fZ.read (D.rd i hi h1 J) (U _ (getElem_mem hi));exact⟨fq,fun _ _ _=>⟨hr,hs⟩⟩
  ·exact⟨[],fun h=>absurd h hi⟩
 obtain⟨f,K⟩:=Classical.axiomOfChoice each
 have hsub:∀(l:List (List Nat)) (g:Nat→List Nat),(∀i (h:i<l.length),(g i).Sublist l[i])→((List.range l.length).map g).flatten.Sublist l.flatten:=by
  intro l
  induction l with
  |nil=>intro g _;simp
  |cons a l Y=>
   intro g hg
   rw[List.length_cons,List.range_succ_eq_map,List.map_cons,List.flatten_cons,List.flatten_cons,List.map_map];exact(hg 0 (by simp)).append (Y (g∘Nat.succ) fun i hi=>hg (i+1) (by simpa using hi))
 have hs:=hsub fps f fun i hi=>(K i (by omega) (by rw[D.cl];omega) hi).2
 refine⟨(List.range fps.length).map f,⟨⟨q,by rw[List.length_map];exact V,⟨by simp[D.cl],by simp[I],fun i Z h1 J=>?_⟩⟩,fun b hb hm=>X b hb (hs.subset hm)⟩,by simp,hs⟩;have O:i<xs.length:=by simpa using Z
 simpa using(K i O h1 (by omega)).1
theorem bE.grow{q:World}{I:TypeId}{xs:List (fZ q.heap.size I)}(h:bE w0 e w v fps xs)(ah:fps.flatten.Nodup)(au:∀b∈fps.flatten,q.heap.size≤b){j:Nat}(hj:j<xs.length):
  ∃g cap B D,v=.slice (some ⟨g,0,none⟩) xs.length cap∧g<w.heap.size∧w0.heap.size≤g∧xs.length≤cap∧w.cell? ⟨g,j,none⟩=some B∧w.frozen? ⟨g,j,none⟩=false∧bE (α:=Int) q I w B D xs[j].o∧D.flatten=[]∧g∉B.ownBlock.toList∧
   (∀U v9 V,Wr B.ownBlock.toList w U→bE (α:=Int) q I U v9 (D++[[]]) V→(v9.ownBlock=B.ownBlock∨∃n,v9.ownBlock=some n∧w.heap.size≤n)→
    ∃J,bE w0 e (U.setCell ⟨g,j,none⟩ v9) v J (xs.set j (fZ.mk q.heap.size I V))∧J.flatten.Nodup∧∀b∈J.flatten,q.heap.size≤b):=by
 have hbase:=h.base;have ax:=h.apart;have ak:=h.lt;obtain⟨g,cap,cs,fq,rfl,h1,h2,h3,h4,h5,h6,h7,h8⟩:=h.upd hj;obtain⟨K,X⟩:=List.getElem?_eq_some_iff.1 h4;obtain⟨B,D,rfl,Y,hO,ay⟩:=fZ.zP h6;have hsub:∀c∈fq,c∈fps.flatten:=fun c hc=>List.mem_flatten.2 ⟨_,getElem_mem K,by rw[X];exact hc⟩
 have Z:g∉fq:=fun hm=>ax g rfl (hsub g hm)
 have O:Rd.n (fZ q.heap.size I)=1:=rfl;have c1:=h5 0 B rfl;rw[O,mul_one,add_zero] at c1;refine⟨g,cap,B,D,rfl,h2,h1,h3,c1,h7 j,hO,ay,by rw[←Y];exact Z,fun U v9 V hw ai aZ=>?_⟩;rw[←Y] at hw
 have T:∀c∈v9.ownBlock.toList,c∈fq∨w.heap.size≤c:=by
  intro c hc
  rcases aZ with e9|⟨n,e9,hn⟩
  ·rw[e9,←Y] at hc;exact .inl hc
  ·rw[e9] at hc
   simp at hc;subst hc;exact .inr hn
 have aj:g∉v9.ownBlock.toList:=fun hm=>by
  rcases T g hm with h|h
  ·exact Z h
  ·omega
 have hr:Rd.rd v9.ownBlock.toList (U.setCell ⟨g,j,none⟩ v9) [v9] (fZ.mk q.heap.size I V):=Rd.wr ai.xq ((Wr.refl [g] _).setCell (by simp) v9) (fun c hc hm=>by simp at hm;subst hm;exact aj hc)
 have h9:=h8 U 0 v9 v9.ownBlock.toList (fZ.mk q.heap.size I V) hw Z (fun k hk bg c hc ae=>by
  have hp:=List.pairwise_iff_getElem.1 (List.pairwise_flatten.1 ah).2;rw[←X] at ae;rcases Nat.lt_or_gt_of_ne bg with bq|bB
  ·exact hp k j hk K bq c hc c ae rfl
  ·exact hp j k K hk bB c ae c hc rfl) (by rw[O];omega) aj (by rw[O,mul_one,add_zero];exact hr)
 rw[O,mul_one,add_zero] at h9;refine⟨_,h9,oU ah K (by cases v9.ownBlock<;>simp) fun c hc=>?_,fun b hb=>?_⟩
 ·rcases T c hc with h|h
  ·rw[←X] at h;exact .inl h
  ·exact .inr fun hm=>by have:=ak c hm;omega
 ·rcases gq hb with hb|hb
  ·exact au b hb
  ·exact(ai.base b (by simpa using hb)).1
def oM(α:Type)[Rd α]:Prop:=∀(fp:List Nat) (w:World) (cs:List Value) (x:α),Rd.rd fp w cs x→fp=[]
theorem nK:oM Int:=fun _ _ _ _ h=>h.1
theorem nI:oM ByteArray:=fun _ _ _ _ h=>h.1
theorem mU{α β:Type}[Rd α][Rd β](h1:oM α)(q:oM β):oM (α×β):=fun _ _ _ _ h=>by
 obtain⟨I,c2,f1,f2,rfl,rfl,B,D⟩:=h;rw[h1 _ _ _ _ B,q _ _ _ _ D];rfl
theorem Els.flat{α:Type}[Rd α](B:oM α){q:List (List Value)}{xs:List α}(h:Els w q fps xs):fps.flatten=[]:=by
 rw[List.flatten_eq_nil_iff];intro l D
 obtain⟨i,hi,rfl⟩:=List.mem_iff_getElem.1 D;exact B _ _ _ _ (h.rd i (by rw[←h.fl];exact hi) (by rw[h.cl,←h.fl];exact hi) hi)
theorem eT.flat{α:Type}[Rd α](B:oM α){x:Value}{q:List (List Nat)}{D:List α}(h:eT w x q D):q.flatten=[]:=by
 rcases h with⟨_,rfl,_⟩|⟨_,_,_,_,_,I,_⟩
 ·rfl
 ·exact I.flat B
section
variable{P:Program}
end
theorem Tryz.kJ:(Tryz.prog.info? 3).map (fun i=>(i.zero,i.size,i.bytes))=some (some (.int .i64 0),1,8):=by kernel_rfl
section
variable{P:Program}
theorem nD{α:Type}[Rd α](hF:oM α){W:World}(O:Gr w W){ops:Array Oper}{o:Oper}{a:Act}{K:Act→World→Prop}{Q:Exit→Act→World→Prop}{E:Prop}(T:o.guard=none)(s x:Operand)(t:TypeId)
  (I:o.op=.call {callee:=.builtin .append,args:=#[s,x],argTypes:=#[t,t]})
  (e:TypeId) (i:TypeInfo) (z:Value) (bytes:Nat) (ht:P.underlying t=some (.slice e)) (hi:P.info? e=some i) (hz:i.zero=some z)
  (hsize:i.size=Rd.n α) (U:i.bytes=bytes) (V:z.cells.size=Rd.n α)
  (v:Value) (hs:a.eval s=v) (hown:bE (α:=α) w e W v [] []) (hblk:v.ownBlock≠none) (J:Value) (B:List α) (hx:a.eval x=J) (hsrc:SlR fp W J B)
  (hlen:B.length≤1048576) (hbytes:B.length*bytes≤140737488355328)
  (h:∀b c fq y,SlR fq (w.ext y) (.slice (some ⟨b,0,none⟩) B.length c) B→aY w fq→Gr w (w.ext y)→w.heap.size≤b→Wr v.ownBlock.toList W (w.ext y)→(∀c∈fq,v.ownBlock=some c∨W.heap.size≤c)→K (a.put o.dst (.slice (some ⟨b,0,none⟩) B.length c)) (w.ext y)):
  if Region.wanted o (yielded ops a.tmps)=true then Oper.wp P o a W K Q else E:=by
 obtain⟨X,Y,-,-⟩:=eT.qL hsrc;have D:=Y.flat hF;refine gU (α:=α) (wg:=w) (w0:=w) O (Nat.le_refl _) O.size T s x t I e i z bytes ht hi hz hsize U V v [] [] hs hown J X B hx Y (fun b hb=>by rw[D];simp) (by simp only[List.length_nil,maxLen];omega) (by simpa using hbytes) ?_;intro Z w' h1 h2 q h4
 obtain⟨y,rfl⟩:=h4;simp only[List.nil_append] at h1
 have h5:∃fq,SlR fq (w.ext y) Z B∧aY w fq∧∀c∈fq,v.ownBlock=some c∨W.heap.size≤c:=by
  obtain⟨fp,hs,⟨rfl,rfl⟩|⟨b,hb,rfl⟩⟩:=h1.slR (by unfold bn;omega)
  ·exact⟨[],hs,aY.nil _,by simp⟩
  ·rw[D] at hs
   refine⟨_,hs,aY.cons (h1.base b hb).1,fun c hc=>?_⟩;obtain rfl:c=b:=by simpa using hc
   rcases q with q|q
   ·exact .inl (q.symm.trans hb)
   ·rw[hb] at q;injection q with q;exact .inr (by omega)
 obtain⟨fq,ae,ah,ai⟩:=h5;have hb:=h1.base
 have hv:∃b c,Z=.slice (some ⟨b,0,none⟩) B.length c:=by
  obtain⟨⟨aj,I,hE⟩,ha⟩:=h1;rcases I.2 with⟨rfl,h0⟩|⟨g,cap,cur,rfl,_⟩
  ·rcases q with q|q
   ·exact absurd q.symm hblk
   ·simp[Value.ownBlock] at q
  ·exact⟨g,cap,rfl⟩
 obtain⟨b,c,rfl⟩:=hv;exact h b c fq y ae ah ⟨y,rfl⟩ (hb b rfl).1 h2 ai
end
theorem sF{α:Type}[Rd α]{xs:List α}(h:bE w0 e w v fps xs)(hb:b<w0.heap.size):b∉v.ownBlock.toList:=by
 intro hm
 have:=(h.base b (by simpa using hm)).1;omega
theorem Wr.aO(h:Wr fp w w')(hc:w.cell? ⟨b,o,none⟩=some v)(hn:b∉fp):w'.cell? ⟨b,o,none⟩=some v:=
 (World.cell?_of_block (a:=⟨b,o,none⟩) (h.block b (blk hc) hn)).trans hc
theorem bE.GQ{α:Type}[Rd α]{xs:List α}(h:bE w0 e w v fps xs)(q:aY w0 fps.flatten)(hb:b<w0.heap.size):bE w0 e (w.setCell ⟨b,o,none⟩ u) v fps xs:=
 h.wr ((Wr.refl [b] w).setCell (by simp) u) (fun c hc hm=>by
  obtain rfl:c=b:=by simpa using hm
  have:=q.2 c hc;omega) (fun c hc hm=>by
  obtain rfl:c=b:=by simpa using hm
  have:=(h.base c hc).1;omega)
theorem SlR.setAt{α:Type}[Rd α]{xs:List α}(h:SlR fq w v xs)(hb:b∉fq):SlR fq (w.setCell ⟨b,o,none⟩ u) v xs:=
 h.wr ((Wr.refl [b] w).setCell (by simp) u) (fun c hc hm=>by
  obtain rfl:c=b:=by simpa using hm
  exact hb hc)
def U8:Type:=Int
def U8.val(x:U8):Int:=x
instance:Rd U8 where
 n:=1
 pos:=by omega
 rd fp _ cs x:=fp=[]∧cs=[.int .u8 x.val]∧(Lit.int .u8 x.val).wf=true
 len h:=by simp[h.2.1]
 lt h:=by simp[h.1]
 mono _ h:=h
 one h u hu:=by rw[h.2.1] at hu;simp at hu;subst hu;rfl
theorem Wr.new{a c d:World}(h:Wr fp a c)(k:Wr fq c d)(hn:∀x∈fq,a.heap.size≤x):Wr fp a d:=
 ⟨k.os.trans h.os,k.tape.trans h.tape,k.output.trans h.output,le_trans h.size k.size,le_trans h.drawn k.drawn,
  fun x q hm=>(k.block x (Nat.lt_of_lt_of_le q h.size) (fun e=>by have:=hn x e;omega)).trans (h.block x q hm)⟩
def _root_.Go.World.first(w:World)(n:Nat):World:={w with heap:=w.heap.extract 0 n}
theorem Wr.Jp{a c d:World}(h:Wr fp a c)(k:Wr fq c d)(hn:∀x∈fq,x∈fp∨a.heap.size≤x):Wr fp a d:=
 ⟨k.os.trans h.os,k.tape.trans h.tape,k.output.trans h.output,le_trans h.size k.size,le_trans h.drawn k.drawn,
  fun x q hm=>(k.block x (Nat.lt_of_lt_of_le q h.size) (fun e=>(hn x e).elim (fun h=>hm h) (fun h=>by omega))).trans (h.block x q hm)⟩
structure TestAttribute(w:World)(fid:Nat)(cap:Array Value)(p:aQ→Bool)(xs:List aQ):Prop where
 fn:∀args W,(callFunc fid args).run Tryz.prog W=.ok (.enter fid args) W
 calls:∀y∈xs,∀(x:Ext) (fp:List Nat) (cs:Array Value),Rd.rd fp (w.ext x) cs.toList y→Qz fid (#[.agg cs]++cap) (w.ext x) (.bool (p y))
theorem nA(fp:List Nat)(u:Value)(xs:List aQ)(D:Nat)(cap:Array Value)(p:aQ→Bool)(w:World)(hu:SlR fp w u xs)(Z:TestAttribute w D cap p xs):
  Qz 214 #[u,.func (.func D) #[] cap] w (.int .i64 (idxOf p xs)):=by
 obtain⟨a,ca,rfl,h1,h2,V⟩:=hu.open;obtain⟨ae,q⟩:=Z;have HC:=Kz q;clear q;delta Qz;go_in
 go_wp2
 go_loopw [8,5] (fun I s5 wr=>∃k:Nat,k≤xs.length∧(∀j (h:j<xs.length),j<k→p xs[j]=false)∧Gr w wr∧I=.int .i64 k) (fun I s5 _=>xs.length - (intOf I).toNat)
 case atStart=>exact⟨0,by omega,by omega,Gr.refl w,rfl⟩
 case round=>
  obtain⟨k,hk,ht,⟨x,rfl⟩,rfl⟩:=hrel;have J:=Kz ht;clear ht
  by_cases B:k<xs.length
  ·obtain⟨b,off,rfl,hb⟩:=V k B
   obtain⟨q0,q1,q2,q3,X,Y,-,-,-,z0,z1,z2,z3,-⟩:=K5 hu B (Gr.refl _);have K:=Lb X Y;clear V;go_wp2_with fail;refine(HC.o _ (getElem_mem B) _ _ _ (Rd.gr K gd)).mono ?_;rintro e w2 ⟨rfl,x2,rfl⟩
   go_wp2
   ·have O:p xs[k]=true:=by assumption
    go_ret;exact⟨aC (iH B O J.o).symm,gd⟩
   ·have O:p xs[k]=false:=by assumption
    refine⟨⟨k+1,by omega,fun j T ah=>?_,gd,by go_num⟩,by simp[intOf];omega⟩
    by_cases U:j<k
    ·exact J.o j T U
    ·obtain rfl:j=k:=by omega
     exact O
  ·go_wp2
   go_ret;exact⟨aC (gu fun j T=>J.o j T (by omega)).symm,gd⟩
theorem gW(fp:List Nat)(u:Value)(xs:List aQ)(h:Nat)(cap:Array Value)(p:aQ→Bool)(w:World)(hu:SlR fp w u xs)(q:TestAttribute w h cap p xs):
  Qz 172 #[u,.func (.func h) #[] cap] w (.bool (xs.any p)):=by
 delta Qz;go_in
 go_wp2_with (go_at_call 214;refine(nA fp _ _ _ _ _ _ hu q).mono ?_;rintro e w1 ⟨rfl,g1⟩)
 go_ret;refine⟨aa ?_,by assumption⟩;rw[Bool.eq_iff_iff,decide_eq_true_iff];exact iW
structure TestSymbol(w:World)(fid:Nat)(cap:Array Value)(p:bC→Bool)(xs:List bC):Prop where
 fn:∀args W,(callFunc fid args).run Tryz.prog W=.ok (.enter fid args) W
 calls:∀y∈xs,∀(x:Ext) (fp:List Nat) (cs:Array Value),Rd.rd fp (w.ext x) cs.toList y→Qz fid (#[.agg cs]++cap) (w.ext x) (.bool (p y))
theorem pK(fp:List Nat)(u:Value)(xs:List bC)(D:Nat)(cap:Array Value)(p:bC→Bool)(w:World)(hu:SlR fp w u xs)(Z:TestSymbol w D cap p xs):
  Qz 241 #[u,.func (.func D) #[] cap] w (.int .i64 (idxOf p xs)):=by
 obtain⟨a,ca,rfl,h1,h2,V⟩:=hu.open;obtain⟨ae,q⟩:=Z;have HC:=Kz q;clear q;delta Qz;go_in
 go_wp2
 go_loopw [8,5] (fun I s5 wr=>∃k:Nat,k≤xs.length∧(∀j (h:j<xs.length),j<k→p xs[j]=false)∧Gr w wr∧I=.int .i64 k) (fun I s5 _=>xs.length - (intOf I).toNat)
 case atStart=>exact⟨0,by omega,by omega,Gr.refl w,rfl⟩
 case round=>
  obtain⟨k,hk,ht,⟨x,rfl⟩,rfl⟩:=hrel;have J:=Kz ht;clear ht
  by_cases B:k<xs.length
  ·obtain⟨b,off,rfl,hb⟩:=V k B
   obtain⟨q0,q1,ah,ai,aj,ak,X,Y,-,au,-,-,z0,z1,-⟩:=K9 hu B (Gr.refl _);have K:=Lb X Y;clear V;go_wp2_with fail;refine(HC.o _ (getElem_mem B) _ _ _ (Rd.gr K gd)).mono ?_;rintro e w2 ⟨rfl,x2,rfl⟩
   go_wp2
   ·have O:p xs[k]=true:=by assumption
    go_ret;exact⟨aC (iH B O J.o).symm,gd⟩
   ·have O:p xs[k]=false:=by assumption
    refine⟨⟨k+1,by omega,fun j T ax=>?_,gd,by go_num⟩,by simp[intOf];omega⟩
    by_cases U:j<k
    ·exact J.o j T U
    ·obtain rfl:j=k:=by omega
     exact O
  ·go_wp2
   go_ret;exact⟨aC (gu fun j T=>J.o j T (by omega)).symm,gd⟩
theorem nk(fp:List Nat)(u:Value)(xs:List bC)(h:Nat)(cap:Array Value)(p:bC→Bool)(w:World)(hu:SlR fp w u xs)(q:TestSymbol w h cap p xs):
  Qz 209 #[u,.func (.func h) #[] cap] w (.bool (xs.any p)):=by
 delta Qz;go_in
 go_wp2_with (go_at_call 241;refine(pK fp _ _ _ _ _ _ hu q).mono ?_;rintro e w1 ⟨rfl,g1⟩)
 go_ret;refine⟨aa ?_,by assumption⟩;rw[Bool.eq_iff_iff,decide_eq_true_iff];exact iW
abbrev J8:=ByteArray×Int×List Int
instance decCell:DecidableEq J8:=@instDecidableEqProd _ _ _ (@instDecidableEqProd _ _ _ (inferInstance))
end Go.Proofs.YtleafadpfeibfaaGreat
