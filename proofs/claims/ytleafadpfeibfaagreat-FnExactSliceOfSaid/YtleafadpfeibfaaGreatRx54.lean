/- Contracts and laws behind those of ReadsOf, part 1. No condition. -/
import Derived.Test.YtleafadpfeibfaaGreatRx50
import Derived.Deep.AppendSrc
import Derived.Deep.MidRow
set_option maxHeartbeats 32000000
set_option maxRecDepth 10000
set_option linter.unusedVariables false
set_option linter.unusedSimpArgs false
namespace Go.Proofs.YtleafadpfeibfaaGreat
open Go.RowKit
variable{d:Nat}
def Rch(R:Nat→List Nat)(a b:Nat):Prop:=∀M:Nat→Prop,M a→(∀x y,M x→y∈R x→M y)→M b
theorem Rch.self(R:Nat→List Nat)(a:Nat):Rch R a a:=fun _ h _=>h
theorem Rch.step{R:Nat→List Nat}{a b c:Nat}(h:Rch R a b)(hc:c∈R b):Rch R a c:=fun M h1 q=>q _ _ (h M h1 q) hc
theorem below_len{n:Nat}{L:List Int}(h:L.Nodup)(hr:∀y∈L,0≤y∧y<n):L.length≤n:=by
 have:=List.Nodup.length_le_of_subset (l₂:=(List.range n).map fun(j:Nat)=>(j:Int)) h fun y q=>by
  have:=hr y q;exact List.mem_map.2 ⟨y.toNat,List.mem_range.2 (by omega),by omega⟩
 simpa using this
def BfR(R:Nat→List Nat)(n a i:Nat)(L:List Int):Prop:=
 i≤L.length∧L.Nodup∧(∀y∈L,∃j:Nat,y=j∧j<n∧Rch R a j)∧(a:Int)∈L∧
  ∀m (_:m<L.length),m<i→∀p:Nat,L[m]=(p:Int)→∀y∈R p,(y:Int)∈L
theorem BfR.start{R:Nat→List Nat}{n a:Nat}(h:a<n):BfR R n a 0 [(a:Int)]:=
 ⟨by simp,by simp,fun y q=>⟨a,by simpa using q,h,Rch.self _ _⟩,by simp,fun m _ hm=>by omega⟩
theorem BfR.push{R:Nat→List Nat}{n a i p:Nat}{L:List Int}(h:BfR R n a i L)(hi:i<L.length)(Y:L[i]=(p:Int)){y:Nat}(T:y∈R p)(I:y<n)(hn:(y:Int)∉L):BfR R n a i (L++[(y:Int)]):=by
 obtain⟨h1,U,J,V,X⟩:=h;obtain⟨j,hj,Z,K⟩:=J _ (List.getElem_mem hi);obtain rfl:j=p:=by omega
 refine⟨by simp;omega,?_,?_,by simp[V],?_⟩
 ·rw[List.nodup_append]
  exact⟨U,by simp,fun u hu v hv e=>hn (by simp at hv;rw[←hv,←e];exact hu)⟩
 ·intro z hz
  rcases List.mem_append.1 hz with hz|hz
  ·exact J z hz
  ·obtain rfl:z=y:=by simpa using hz
   exact⟨y,rfl,I,K.step T⟩
 ·intro m hm O q B z hz
  have D:m<L.length:=by omega
  rw[List.getElem_append_left D] at B;exact List.mem_append_left _ (X m D O q B z hz)
theorem BfR.next{R:Nat→List Nat}{n a i p:Nat}{L:List Int}(h:BfR R n a i L)(hi:i<L.length)(T:L[i]=(p:Int))(hc:∀y∈R p,(y:Int)∈L):BfR R n a (i+1) L:=by
 obtain⟨h1,I,J,K,O⟩:=h;refine⟨by omega,I,J,K,fun m hm U q D z hz=>?_⟩
 by_cases B:m<i
 ·exact O m hm B q D z hz
 ·obtain rfl:m=i:=by omega
  obtain rfl:q=p:=by omega
  exact hc z hz
theorem BfR.length_le{R:Nat→List Nat}{n a i:Nat}{L:List Int}(h:BfR R n a i L):L.length≤n:=
 below_len h.2.1 fun y q=>by
  obtain⟨j,B,D,_⟩:=h.2.2.1 y q;omega
theorem BfR.done{R:Nat→List Nat}{n a:Nat}{L:List Int}(h:BfR R n a L.length L)(p:Nat):(p:Int)∈L↔Rch R a p:=by
 obtain⟨h1,T,D,I,J⟩:=h;constructor
 ·intro B
  obtain⟨j,U,-,hr⟩:=D _ B;obtain rfl:p=j:=by omega
  exact hr
 ·intro B
  refine B (fun x=>(x:Int)∈L) I fun x y K O=>?_
  obtain⟨m,q,e⟩:=List.mem_iff_getElem.1 K;exact J m q q x e y O
noncomputable def slcT(L:List av)(R:Nat→List Nat)(a i:Nat):List av:=((List.range i).filter fun j=>pB (Rch R a j)).map fun j=>L.getD j iN
theorem slcT_yes{L:List av}{R:Nat→List Nat}{a i:Nat}(h:Rch R a i):slcT L R a (i+1)=slcT L R a i++[L.getD i iN]:=by
 unfold slcT;rw[List.range_succ,List.filter_append,List.map_append];simp[bQ h]
theorem slcT_no{L:List av}{R:Nat→List Nat}{a i:Nat}(h:¬Rch R a i):slcT L R a (i+1)=slcT L R a i:=by
 unfold slcT;rw[List.range_succ,List.filter_append,List.map_append];simp[bV h]
theorem slcT_len(L:List av)(R:Nat→List Nat)(a i:Nat):(slcT L R a i).length≤i:=by
 unfold slcT;rw[List.length_map];exact Nat.le_trans (List.length_filter_le _ _) (by simp)
noncomputable def sliceOf(g:af d)(t:List aT)(x:av):List av:=
 if kT g t=true then match sW g t [x] with
  |none=>[]
  |some s=>if gL (bU g t) x<0 then[] else slcT (bU g t) (fun j=>s.reads.getD j []) (gL (bU g t) x).toNat (bU g t).length
 else[]
theorem insts_nodup{g:af d}{t:List aT}(hg:jI g):(bU g t).Nodup:=by
 unfold bU
 split
 ·rename_i ht
  have hid:=(jv.1 ht).2.1;refine List.pairwise_flatMap.2 ⟨fun n _=>?_,?_⟩
  ·unfold ll
   cases e:bW g.1 (leftOf g n) with
   |none=>exact List.Pairwise.nil
   |some s=>
    have hs:=(hg.1.2.2.1.1 s (List.mem_of_find?_eq_some e)).2.2.2
    show(List.map _ s.2).Nodup
    refine List.pairwise_iff_getElem.2 fun i j hi B q h=>?_
    rw[List.getElem_map,List.getElem_map] at h;exact hs j (by simpa using B) i (by simpa using hi) q (congrArg Prod.snd h)
  ·rw[List.pairwise_iff_getElem]
   intro i j hi B q x D y I e
   subst e;unfold ll at D I;obtain⟨a,-,rfl⟩:=List.mem_map.1 D;obtain⟨b,-,e⟩:=List.mem_map.1 I;exact(hid j B).2 i hi q (congrArg Prod.fst e).symm
 ·exact List.Pairwise.nil
theorem insIx_self{L:List av}(h:L.Nodup){m:Nat}(hm:m<L.length):gL L (L.getD m iN)=m:=by
 rw[getD_at hm];unfold gL;refine iH hm (by simp) fun j B q=>?_
 have:=List.pairwise_iff_getElem.1 h j m B hm q;exact decide_eq_false this
def QuI(base:Nat)(w:World)(v:Value)(T:List av):Prop:=
 ∃g off cap,v=.slice (some ⟨g,off,none⟩) T.length cap∧(base≤g∧g<w.heap.size)∧(T.length≤cap∧cap≤maxLen)∧(∀y∈T,Io y)∧
  (∀j u,(T.map encI).flatten[j]?=some u→w.cell? ⟨g,off+j,none⟩=some u)∧∀j,j<cap*2→(w.cell? ⟨g,off+j,none⟩).isSome=true∧w.frozen? ⟨g,off+j,none⟩=false
theorem flat_enc(T:List av):(T.map encI).flatten.length=T.length*2:=by
 induction T with
 |nil=>rfl
 |cons x T h=>
  rw[List.map_cons,List.flatten_cons,List.length_append,h];simp[encI];omega
theorem QuI.same{base:Nat}{w w':World}{v:Value}{T:List av}(h:QuI base w v T)(hb:∀g,v.ownBlock=some g→w'.heap[g]?=w.heap[g]?):QuI base w' v T:=by
 obtain⟨g,off,cap,rfl,⟨h1,B⟩,D,I,J,K⟩:=h;have e:=hb g rfl;refine⟨g,off,cap,rfl,⟨h1,?_⟩,D,I,fun j u q=>?_,fun j q=>?_⟩
 ·rw[Array.getElem?_eq_getElem B] at e
  exact(Array.getElem?_eq_some_iff.1 e).1
 ·rw[World.cell?_of_block (a:=⟨g,off+j,none⟩) e]
  exact J j u q
 ·rw[World.cell?_of_block (a:=⟨g,off+j,none⟩) e,World.frozen?_of_block (a:=⟨g,off+j,none⟩) e]
  exact K j q
theorem QuI.gr{base:Nat}{w w':World}{v:Value}{T:List av}(h:QuI base w v T)(hg:Gr w w'):QuI base w' v T:=by
 have q:=h;obtain⟨g,off,cap,rfl,⟨h1,B⟩,-⟩:=q
 exact h.same fun c hc=>by
  injection hc with hc;subst hc;exact hg.below.block g B
theorem QuI.wr{base:Nat}{w w':World}{v:Value}{T:List av}{fp:List Nat}(h:QuI base w v T)(hw:Wr fp w w')(hn:∀b,v.ownBlock=some b→b∉fp):QuI base w' v T:=by
 have q:=h;obtain⟨g,off,cap,rfl,⟨h1,B⟩,-⟩:=q
 exact h.same fun c hc=>by
  injection hc with hc;subst hc;exact hw.block g B (hn g rfl)
theorem QuI.formT{base:Nat}{w:World}{v:Value}{T:List av}(h:QuI base w v T):∃a c,v=.slice a T.length c:=by
 obtain⟨g,off,cap,h,-⟩:=h;exact⟨_,_,h⟩
theorem QuI.head{base:Nat}{w:World}{v:Value}{x:av}{T:List av}(h:QuI base w v (x::T)):
  ∃g off cap,v=.slice (some ⟨g,off,none⟩) (T.length+1) cap∧base≤g∧g<w.heap.size∧1≤cap∧T.length+1≤cap∧cap≤maxLen∧Io x∧w.cell? ⟨g,off,none⟩=some (.int .i64 x.1)∧w.cell? ⟨g,off+1,none⟩=some (.string x.2):=by
 obtain⟨g,off,cap,rfl,⟨h1,I⟩,⟨q,B⟩,J,D,K⟩:=h;simp only[List.length_cons] at q;exact⟨g,off,cap,rfl,h1,I,by omega,q,B,J x (by simp),D 0 _ rfl,D 1 _ rfl⟩
theorem QuI.tail{base:Nat}{w:World}{g off n cap:Nat}{x:av}{T:List av}(h:QuI base w (.slice (some ⟨g,off,none⟩) n cap) (x::T)):
  QuI base w (.slice (some ⟨g,off+2,none⟩) T.length (cap - 1)) T∧(cap=1→QuI base w (.slice (some ⟨g,off,none⟩) 0 0) T):=by
 obtain⟨g',D,I,hv,h1,⟨J,Z⟩,K,O,U⟩:=h;injection hv with q e2 V;injection q with q;injection q with q X _;subst q X V;simp only[List.length_cons] at J;refine⟨⟨g,off+2,cap - 1,rfl,h1,⟨by omega,by omega⟩,fun y Y=>K y (List.mem_cons_of_mem _ Y),fun j u B=>?_,fun j B=>?_⟩,fun hc=>?_⟩
 ·rw[show off+2+j=off+(j+2) by omega]
  exact O (j+2) u (by simpa[encI] using B)
 ·rw[show off+2+j=off+(j+2) by omega]
  exact U (j+2) (by omega)
 ·have:T=[]:=List.eq_nil_of_length_eq_zero (by omega)
  subst this;exact⟨g,off,0,rfl,h1,⟨Nat.le_refl _,by omega⟩,by simp,by simp,by omega⟩
theorem Wr.putCells{fp:List Nat}{a:World}{g:Nat}(hg:g∈fp):∀(vs:List Value) (o:Nat) (w:World),Wr fp a w→Wr fp a (w.setCells g o vs)
 |[],_,_,h=>h
 |v::vs,o,w,h=>Wr.putCells hg vs (o+1) _ (h.setCell hg v)
section
variable{P:Program}
theorem SlR.srcI{w:World}{fp:List Nat}{n k:Nat}{t e:TypeId}{a:Option Addr}{Y:List av}(ht:P.underlying t=some (.slice e))(h:SlR fp w (.slice a n k) Y):n=Y.length∧Src P 2 t (.slice a n k) n (Y.map encI).flatten w∧∀y∈Y,Io y:=by
 obtain⟨T,hs,-,-⟩:=eT.qL h;obtain⟨_,_,he,-,-,-⟩:=h.open;injection he with _ he _;subst he;refine⟨rfl,?_⟩;rcases hs with⟨rfl,rfl,V,c,hv⟩|⟨b,off,c,q,hv,B,hc⟩
 ·refine⟨?_,by simp⟩
  cases a with
  |none=>exact Src.ofNil w ht k
  |some a=>exact Src.ofSlice w ht a 0 k [] (by simp) (by simp) (by simp)
 ·have D:∀i (h:i<Y.length) (h1:i<q.length),q[i]=encI Y[i]∧Io Y[i]:=fun i h h1=>(Iz (B.rd i h h1 (by rw[B.fl];exact h))).2
  have I:q=Y.map encI:=by
   apply List.ext_getElem
   ·rw[B.cl];simp
   ·intro i h1 J
    rw[(D i (by simpa using J) h1).1];simp
  injection hv with hv _ U;subst hv;rw[I] at hc B;refine⟨Src.ofSlice w ht ⟨b,off,none⟩ Y.length k _ (by rw[flat_enc]) (fun j u K=>?_) B.oneCell,fun y O=>?_⟩
  ·have e:(⟨b,off,none⟩:Addr).add j=⟨b,off+j,none⟩:=by
    unfold Addr.add
    split
    ·rename_i e;subst e;rfl
    ·rfl
   rw[e];exact hc j u K
  ·obtain⟨i,hi,rfl⟩:=List.mem_iff_getElem.1 O
   exact(D i hi (by rw[I];simpa using hi)).2
theorem run_append_quI{base:Nat}{w0 w:World}(hG:Gr w0 w)(hbase:w0.heap.size≤base)(ah:base≤w.heap.size)(t ty e:TypeId)(i:TypeInfo)(z:Value)(ht:P.underlying t=some (.slice e))(hi:P.info? e=some i)(hz:i.zero=some z)(hsize:i.size=2)(ai:i.bytes=24)(aj:z.cells.size=2)
  {v:Value} {T Y:List av} (hq:QuI base w v T) {fp:List Nat} {a:Option Addr} {n k:Nat} (X:SlR fp w (.slice a n k) Y) (hlen:T.length+Y.length≤1048576):
  ∃O w',(Builtin.append_ #[t,t] ty #[v,.slice a n k]).run P w=.ok O w'∧QuI base w' O (T++Y)∧Wr v.ownBlock.toList w w'∧Gr w0 w'∧(O.ownBlock=v.ownBlock∨O.ownBlock=some w.heap.size):=by
 obtain⟨g,off,cap,rfl,⟨h1,h2⟩,⟨h3,ak⟩,h4,h5,Z⟩:=hq;obtain⟨rfl,hs,au⟩:=X.srcI ht;rw[←hsize] at hs;have U:((T++Y).map encI).flatten=(T.map encI).flatten++(Y.map encI).flatten:=by simp
 have B:∀y∈T++Y,Io y:=fun y X=>(List.mem_append.1 X).elim (h4 y) (au y)
 by_cases q:T.length+Y.length≤cap
 ·have D:∀j,j<(Y.map encI).flatten.length→(w.cell? ⟨g,off+T.length*i.size+j,none⟩).isSome=true∧w.frozen? ⟨g,off+T.length*i.size+j,none⟩=false:=fun j h=>by
   rw[flat_enc] at h;rw[hsize,Nat.add_assoc];exact Z _ (by omega)
  have hr:=run_append_room_src (P:=P) w t t ty e i ht hi g off T.length cap _ Y.length _ hs q (fun j h=>(D j h).1) (fun j h=>(D j h).2);have I:Wr [g] w (w.setCells g (off+T.length*i.size) (Y.map encI).flatten):=Wr.putCells (by simp) _ _ _ (Wr.refl _ _);refine⟨_,_,hr,⟨g,off,cap,by simp,⟨h1,Nat.lt_of_lt_of_le h2 I.size⟩,⟨by simpa using q,ak⟩,B,fun j u h=>?_,fun j h=>?_⟩,I,?_,.inl rfl⟩
  ·rw[U] at h
   by_cases J:j<(T.map encI).flatten.length
   ·rw[List.getElem?_append_left J] at h
    rw[World.cell?_setCells_out g _ _ _ _ (fun _ _=>Or.inl (by rw[flat_enc] at J;show off+j<off+T.length*i.size;rw[hsize];omega))];exact h5 j u h
   ·rw[List.getElem?_append_right (by omega),flat_enc] at h
    rw[flat_enc] at J;have ax:=(List.getElem?_eq_some_iff.1 h).1;have:=World.cell?_setCells_in g (Y.map encI).flatten (off+T.length*i.size) w (fun j h=>(D j h).1) _ ax;rw[show off+T.length*i.size+(j - T.length*2)=off+j by rw[hsize];omega] at this;rw[this];exact congrArg some (List.getElem?_eq_some_iff.1 h).2
  ·exact⟨World.isSome_setCells g _ _ _ _ (Z j h).1,(World.frozen?_setCells g _ _ _ _).trans (Z j h).2⟩
  ·exact hG.wr I fun b hb=>by
    have e:b=g:=by simpa using hb
    omega
 ·have K:(Builtin.firstCells i.size T.length (.slice (some ⟨g,off,none⟩) T.length cap)).run P w.drew=.ok (T.map encI).flatten.toArray w.drew:=
   run_firstCells_some w.drew i.size T.length ⟨g,off,none⟩ T.length cap (T.map encI).flatten (by rw[flat_enc,hsize]) (fun j u h=>by
    have e1:(⟨g,off,none⟩:Addr).add j=⟨g,off+j,none⟩:=by
     unfold Addr.add
     split
     ·rename_i e;subst e;rfl
     ·rfl
    rw[e1];exact h5 j u h)
  have ay:(T.length+Y.length)*24≤140737488355328:=by omega
  have hr:=run_append_grow_src (P:=P) w t t ty e i z ht hi hz (some ⟨g,off,none⟩) T.length cap (T.map encI).flatten K _ Y.length _ hs (by omega) (by omega) (by rw[ai];exact growslice_fits (by omega) ay);have aZ:=grownCap_ge w (T.length+Y.length) cap e;have bg:=grownCap_le_maxLen w (T.length+Y.length) cap e (by unfold maxLen;omega);have V:Gr w (w.drew.alloc (.cells (((T.map encI).flatten++(Y.map encI).flatten).toArray++Builtin.zeroCells z.cells (grownCap w (T.length+Y.length) cap e - (T.length+Y.length))) e)):=(Gr.refl w).drew.alloc _;have hcell:∀j,(w.drew.alloc (.cells (((T.map encI).flatten++(Y.map encI).flatten).toArray++Builtin.zeroCells z.cells (grownCap w (T.length+Y.length) cap e - (T.length+Y.length))) e)).cell? ⟨w.heap.size,j,none⟩=_:=fun j=>World.cell?_alloc_new w.drew _ _ j
  refine⟨_,_,hr,⟨w.heap.size,0,grownCap w (T.length+Y.length) cap e,by simp,⟨ah,by simp⟩,⟨by simpa using aZ,bg⟩,B,fun j u h=>?_,fun j h=>⟨?_,?_⟩⟩,V.eF _,hG.trans V,.inr rfl⟩
  ·rw[U] at h
   rw[Nat.zero_add,hcell,Array.getElem?_append_left (by simpa using(List.getElem?_eq_some_iff.1 h).1)];simpa using h
  ·rw[Nat.zero_add,hcell]
   have hL:((T.map encI).flatten++(Y.map encI).flatten).length=(T.length+Y.length)*2:=by rw[List.length_append,flat_enc,flat_enc];omega
   have ae:(((T.map encI).flatten++(Y.map encI).flatten).toArray++Builtin.zeroCells z.cells (grownCap w (T.length+Y.length) cap e - (T.length+Y.length))).size=grownCap w (T.length+Y.length) cap e*2:=by
    rw[Array.size_append,List.size_toArray,hL,size_zeroCells,aj,←Nat.add_mul]
    congr 1
    omega
   rw[Array.getElem?_eq_getElem (by rw[ae];exact h)];rfl
  ·rw[Nat.zero_add]
   exact World.frozen?_alloc_new w.drew _ _ j
theorem wpList_append_quI{base:Nat}{w0 w:World}(O:Gr w0 w)(hbase:w0.heap.size≤base)(B:base≤w.heap.size){ops:Array Oper}{rest:List Oper}{o:Oper}{a:Act}{Q:Exit→Act→World→Prop}(D:o.guard=none)(s x:Operand)(t:TypeId)
  (U:o.op=.call {callee:=.builtin .append,args:=#[s,x],argTypes:=#[t,t]})
  (e:TypeId) (i:TypeInfo) (z:Value) (ht:P.underlying t=some (.slice e)) (hi:P.info? e=some i) (hz:i.zero=some z) (hsize:i.size=2) (I:i.bytes=24) (J:z.cells.size=2)
  (v:Value) (T:List av) (hs:a.eval s=v) (V:QuI base w v T) {fp:List Nat} {b:Option Addr} {n k:Nat} (Y:List av) (X:a.eval x=.slice b n k) (Z:SlR fp w (.slice b n k) Y) (hlen:T.length+Y.length≤1048576)
  (h:∀q w',QuI base w' q (T++Y)→Wr v.ownBlock.toList w w'→Gr w0 w'→(q.ownBlock=v.ownBlock∨q.ownBlock=some w.heap.size)→wpList P ops Q rest (a.put o.dst q) w'):wpList P ops Q (o::rest) a w:=by
 refine wpList_plain D fun K hK=>?_
 obtain⟨q,w',hr,h2,h3,h4,h5⟩:=run_append_quI (P:=P) O hbase B t o.type e i z ht hi hz hsize I J V Z hlen;unfold Oper.wp execOp;simp only[U,resolve,invoke,builtin,Sem.run_bind,Sem.run_pure,Result.andThen_ok,List.map_toArray,List.map_cons,List.map_nil,hs,X,hr];exact hK _ _ (h q w' h2 h3 h4 h5)
end
def QInv(R:Nat→List Nat)(n a:Nat)(fl:List Bool)(T:List Nat):Prop:=
 fl.length=n∧(∀j∈T,j<n∧Rch R a j)∧(fl[a]?=some true∨a∈T)∧∀j,fl[j]?=some true→Rch R a j∧∀b∈R j,fl[b]?=some true∨b∈T
theorem QInv.start{R:Nat→List Nat}{n a:Nat}(q:a<n):QInv R n a (List.replicate n false) [a]:=by
 refine⟨by simp,fun j h=>?_,.inr (by simp),fun j h=>?_⟩
 ·obtain rfl:j=a:=by simpa using h
  exact⟨q,Rch.self _ _⟩
 ·rw[List.getElem?_replicate] at h
  split at h<;>simp at h
theorem QInv.skip{R:Nat→List Nat}{n a i:Nat}{fl:List Bool}{T:List Nat}(h:QInv R n a fl (i::T))(hi:fl[i]?=some true):QInv R n a fl T:=by
 obtain⟨h1,D,I,B⟩:=h
 have key:∀b,fl[b]?=some true∨b∈i::T→fl[b]?=some true∨b∈T:=fun b hb=>by
  rcases hb with hb|hb
  ·exact .inl hb
  ·rcases List.mem_cons.1 hb with rfl|hb
   ·exact .inl hi
   ·exact .inr hb
 exact⟨h1,fun j q=>D j (List.mem_cons_of_mem _ q),key _ I,fun j q=>⟨(B j q).1,fun b hb=>key _ ((B j q).2 b hb)⟩⟩
theorem QInv.take{R:Nat→List Nat}{n a i:Nat}{fl:List Bool}{T:List Nat}(h:QInv R n a fl (i::T))(O:∀y∈R i,y<n):QInv R n a (fl.set i true) (T++R i):=by
 obtain⟨h1,I,U,J⟩:=h;have hi:=I i (by simp);have K:i<fl.length:=by rw[h1];exact hi.1
 have up:∀b,fl[b]?=some true∨b∈i::T→(fl.set i true)[b]?=some true∨b∈T++R i:=fun b hb=>by
  by_cases B:b=i
  ·subst B
   exact .inl (by simp[K])
  ·rcases hb with hb|hb
   ·exact .inl (by rw[List.getElem?_set_ne (fun e=>B e.symm)];exact hb)
   ·rcases List.mem_cons.1 hb with e|hb
    ·exact absurd e B
    ·exact .inr (List.mem_append_left _ hb)
 refine⟨by simpa using h1,fun j q=>?_,up _ U,fun j q=>?_⟩
 ·rcases List.mem_append.1 q with q|q
  ·exact I j (List.mem_cons_of_mem _ q)
  ·exact⟨O j q,hi.2.step q⟩
 ·by_cases D:j=i
  ·subst D
   exact⟨hi.2,fun b hb=>.inr (List.mem_append_right _ hb)⟩
  ·rw[List.getElem?_set_ne (fun e=>D e.symm)] at q
   exact⟨(J j q).1,fun b hb=>up _ ((J j q).2 b hb)⟩
theorem QInv.done{R:Nat→List Nat}{n a:Nat}{fl:List Bool}(h:QInv R n a fl [])(p:Nat):fl[p]?=some true↔Rch R a p:=by
 obtain⟨h1,K,D,B⟩:=h;refine⟨fun q=>(B p q).1,fun q=>q (fun x=>fl[x]?=some true) (D.elim id (fun h=>by cases h)) fun x y I J=>((B x I).2 y J).elim id (fun h=>by cases h)⟩
theorem count_set{fl:List Bool}{i:Nat}(h:fl[i]?=some false):(fl.set i true).count false+1=fl.count false:=by
 induction fl generalizing i with
 |nil=>simp at h
 |cons b fl q=>
  cases i with
  |zero=>
   obtain rfl:b=false:=by simpa using h
   simp
  |succ i=>
   have:=q (i:=i) (by simpa using h);simp only[List.set_cons_succ,List.count_cons];omega
theorem QuI.lit{base:Nat}{W:World}{b:Nat}{t:TypeId}{q:Int}{B:ByteArray}(I:Io (q,B))(h:W.heap[b]?=some (.cells #[.int .i64 q,.string B] t))(hb:base≤b):QuI base W (.slice (some ⟨b,0,none⟩) 1 1) [(q,B)]:=by
 refine⟨b,0,1,rfl,⟨hb,(Array.getElem?_eq_some_iff.1 h).1⟩,⟨by simp,by unfold maxLen;omega⟩,fun y J=>by obtain rfl:=List.mem_singleton.1 J;exact I,fun j u D=>?_,fun j D=>⟨?_,jB h _⟩⟩
 ·rw[cell_of_row W b _ _ t (0,0) h]
  simpa[encI] using D
 ·rw[cell_of_row W b _ _ t (0,0) h,Array.getElem?_eq_getElem (by simp;omega)]
  rfl
def Met2(E:World)(n:Nat)(x:av)(s t:Value)(wr:World):Prop:=
 ∃h,s=.slice (some ⟨h,0,none⟩) n n∧az wr h 4 (List.replicate n (.bool false))∧E.heap.size≤h∧Gr E wr∧t.ownBlock≠some h∧QuI E.heap.size wr t [x]
theorem Met2.a{E:World}{n:Nat}{h:Int}{q:ByteArray}{C:Array Value}(B:C.toList=List.replicate n (.bool false))(D:Io (h,q)):
  Met2 E n (h,q) (.slice (some ⟨E.heap.size,0,none⟩) n n) (.slice (some ⟨E.heap.size+1,0,none⟩) 1 1) ((E.alloc (.cells C 4)).alloc (.cells #[.int .i64 h,.string q] 45)).drew:=by
 refine⟨_,rfl,?_,Nat.le_refl _,gd,by simp[Value.ownBlock],QuI.lit D (gH (by simp)) (by omega)⟩;unfold az;rw[←B];exact(dU (by simp)).trans (gH rfl)
theorem Met2.b{E:World}{n:Nat}{h:Int}{q:ByteArray}{C:Array Value}(B:C.toList=List.replicate n (.bool false))(D:Io (h,q)):
  Met2 E n (h,q) (.slice (some ⟨E.heap.size+1,0,none⟩) n n) (.slice (some ⟨E.heap.size,0,none⟩) 1 1) ((E.alloc (.cells #[.int .i64 h,.string q] 45)).alloc (.cells C 4)).drew:=by
 refine⟨_,rfl,?_,by omega,gd,by simp[Value.ownBlock],QuI.lit D ((dU (by simp)).trans (gH rfl)) (Nat.le_refl _)⟩;unfold az;rw[←B];exact gH (by simp)
theorem sliceS_any{fg ft:List Nat}(g:af d)(t:List aT)(x:av){ag0:Option Addr}{kg0:Nat}{ag1:Option Addr}{kg1:Nat}{at_:Option Addr}{kt:Nat}(w:World)(hg:Rd.rd fg w [.slice ag0 g.1.length kg0,.slice ag1 g.2.length kg1] g)(ht:Rd.rd ft w [.slice at_ t.length kt] t)(za:(Lit.int .i64 x.1).wf=true)(zb:x.2.size≤maxLen)(hl:aP g≤1048576)(ze:t.length≤1048576)(J:gY t≤1048576):
  Calls Tryz.prog 22 #[.agg #[.slice ag0 g.1.length kg0,.slice ag1 g.2.length kg1],.agg #[.slice at_ t.length kt],.agg #[.int .i64 x.1,.string x.2]] w (p8 w (sliceOf g t x)):=by
 have Z:=Kz hg;have HT:=Kz ht;have iw:=Kz hl;have zg:=Kz ze;have Lm:=Kz J;have HX:=Kz (And.intro za zb);obtain⟨q,D⟩:=x;clear hg ht hl ze J za zb;obtain⟨i0,hi⟩:=info_parts Tryz.o6;have HZ:=Kz hi;clear hi
 by_cases K:kT g t=true
 ·have kr:=Kz K
  have dB:=Kz (show jI g from dx.1 (by unfold kT at K;simp at K;exact K.1));have zn:=Kz (show fP g t=true by unfold kT at K;simp at K;exact K.2);have U:=Kz (show sliceOf g t (q,D)=(match sW g t [(q,D)] with|none=>[]|some s=>if gL (bU g t) (q,D)<0 then[] else slcT (bU g t) (fun j=>s.reads.getD j []) (gL (bU g t) (q,D)).toNat (bU g t).length) by unfold sliceOf;rw[if_pos K];all_goals(cases sW g t [(q,D)]<;>rfl));clear K;go_in;go_wp2_with fail;refine(uW g t _ (Rd.gr Z.o gd) (Rd.gr HT.o gd) iw.o zg.o).mono ?_;rw[kr.o];rintro e B ⟨rfl,gB⟩;have ai:=Kz (Gr.trans gd gB:Gr w B);obtain⟨A3,bq⟩:=nm (((w.alloc (.cells #[.slice ag0 g.1.length kg0,.slice ag1 g.2.length kg1] 39)).alloc (.cells #[.slice at_ t.length kt] 43)).alloc (.cells #[.int .i64 q,.string D] 45));have VG:=Kz (az.gr (az.new rfl:az (w.alloc (.cells #[.slice ag0 g.1.length kg0,.slice ag1 g.2.length kg1] 39)) w.heap.size 39 [.slice ag0 g.1.length kg0,.slice ag1 g.2.length kg1]) (Gr.trans gd gB:Gr _ B));have VT:=Kz (az.gr (az.new (by simp):az ((w.alloc (.cells #[.slice ag0 g.1.length kg0,.slice ag1 g.2.length kg1] 39)).alloc (.cells #[.slice at_ t.length kt] 43)) (w.heap.size+1) 43 [.slice at_ t.length kt]) (Gr.trans gd gB:Gr _ B));have VX:=Kz (az.gr (az.new (by simp):az (((w.alloc (.cells #[.slice ag0 g.1.length kg0,.slice ag1 g.2.length kg1] 39)).alloc (.cells #[.slice at_ t.length kt] 43)).alloc (.cells #[.int .i64 q,.string D] 45)) (w.heap.size+1+1) 45 [.int .i64 q,.string D]) (Gr.trans gd gB:Gr _ B));rw[←bq] at gB;have V3:=Kz (az.gr (az.new (by rw[bq];simp):az (A3.alloc (.cells #[] 45)) (w.heap.size+1+1+1) 45 []) gB);have zo:A3.heap.size=w.heap.size+1+1+1:=by rw[bq];simp
  have zu:=Kz (show Gr w A3 by rw[bq];exact gd);have Ls:=Kz ((bE.kF (α:=av) (w0:=A3) (w:=A3) 45 (Nat.le_refl _) zo.symm).gr gB);have zx:w.heap.size+1+1+1<B.heap.size:=by have:=gB.size;simp at this;omega
  have Lv:=Kz zx;have Lx:=Kz (Gr.trans gd gB:Gr A3 B);obtain⟨d0,d1⟩:=VG.o.c2;have d2:B.cell? ⟨w.heap.size+1,0,none⟩=some (.slice at_ t.length kt):=VT.o.c 0;obtain⟨d3,d4⟩:=VX.o.c2;have zd:=blk d0;have LA:=blk d2;have LB:=blk d3;clear bq gB zo zx;go_wp2_with fail;obtain⟨fo,ho,-⟩:=(bE.FB (α:=av) (w0:=B) (w:=B) 45 (Nat.le_refl _) (g:=B.heap.size) rfl (cs:=#[.int .i64 q,.string D]) (bZ q D HX.o.1 HX.o.2)).slR (by unfold bn;simp);refine(GN g t [(q,D)] _ (Rd.gr Z.o (tg ai)) (Rd.gr HT.o (tg ai)) ho (by simp) iw.o Lm.o dB.o zn.o).mono ?_;rintro e W2 ⟨w1,aL,kL,bz,bv,bs,br,fp,rfl,g1,⟨fl,ku⟩,ky⟩;have LC:=Kz (Gr.trans gd g1:Gr B w1);obtain⟨L,hL⟩:=nm (bU g t);have zH:=jX dB.o zn.o;rw[←hL] at ku ky zH U;have zL:=Kz ku;obtain⟨s,cyc,hc,dS⟩:=ky.core;have HC:=Kz hc;have y7:=Kz dS;have Y:=Kz (LC.o.trans hc.gr);obtain⟨y0,y1,y2,y3,y8⟩:=hc.fixed;have zy:=blk y0;have LD:=Kz (fun W=>bZ (w:=W) q D HX.o.1 HX.o.2);obtain⟨KX,dV⟩:=nm (gL L (q,D));rw[←dV] at U;have LF:=Kz (show KX<L.length∧-1≤KX by rw[dV];have:=kS L (q,D);omega);have f3:=Y.o.keep d3;have f4:=Y.o.keep d4;have zf:=blk f3;have zO:=Kz (fun x:Ext=>nC L (q,D) (W2.ext x) (zL.o.gr (HC.o.gr.trans gd)) (LD.o _));rw[←dV] at zO;clear d0 d1 d2 d3 d4 zd LA LB ho g1 ku ky hc dS dV hL;go_wp2_with fail;refine wg ?_
  iterate 7 (go_big_quiet_step (first|(go_at_call 38;exact aG (zO.o _))))
  refine wq fun x2=>?_
  obtain⟨V,lq⟩:=nm (W2.ext x2);have g5:Gr W2 V:=by rw[lq];exact gd
  rw[←lq];have oH:=Kz (HC.o.grow g5);have aj:=Kz (Y.o.trans g5);have q3:=g5.keep y3;have q8:=g5.keep y8;have zq:=blk q3;clear lq g5 y0 y1 y2 y3 y8 zy f3 f4 zf;rcases y7.o with⟨ah,rfl,z8⟩|⟨ah,rfl⟩
  ·rw[ah] at U
   have o5:=Kz z8;clear ah z8
   by_cases cK:KX<0
   ·have au:=Kz (show sliceOf g t (q,D)=[] by rw[U.o];exact if_pos cK)
    go_wp2_with fail;go_ret;rw[au.o];exact⟨_,[],rfl,⟨_,0,rfl,by simp,by simp,.inl ⟨rfl,rfl⟩⟩,aY.nil _,ai.o.trans (tg aj)⟩
   ·obtain⟨k,rfl⟩:∃k:Nat,KX=k:=⟨KX.toNat,by omega⟩
    have au:=Kz (show sliceOf g t (q,D)=slcT L (fun j=>s.reads.getD j []) k L.length by rw[U.o];exact(if_neg cK).trans (by rw[Int.toNat_natCast]));have o9:=Kz (show k<L.length by have:=LF.o.1;omega);obtain⟨R,hR⟩:∃R:Nat→List Nat,R=fun j=>s.reads.getD j []:=⟨_,rfl⟩
    have LG:=Kz (show∀p,p<L.length→∃ak ck,V.cell? ⟨br,p,none⟩=some (.slice ak (R p).length ck)∧∃fq,SlR fq V (.slice ak (R p).length ck) ((R p).map Int.ofNat) from fun p hp=>by
     rw[hR];exact oH.o.Et (k:=p) o5.o.len zH hp)
    have Lj:=Kz (show∀p,∀m∈R p,m<L.length from fun p=>by rw[hR];exact o5.o.mem p);have LH:=Kz (show∀p,(R p).length≤2000 from fun p=>by rw[hR];exact o5.o.len p);rw[←hR] at au;have q6:V.cell? ⟨bz,6,none⟩=some (.slice (some ⟨br,0,none⟩) L.length L.length):=oH.o.hz.c 6;have V5:=Kz (V3.o.gr aj.o);have LJ:=Kz (Ls.o.gr aj.o);have LK:=Kz (Lx.o.trans aj.o);have LM:=Kz (show w.heap.size+1+1+1<V.heap.size from Nat.lt_of_lt_of_le Lv.o aj.o.size);obtain⟨i1,qb,A7,BM,EB⟩:=info_parts Tryz.IL;have bB:=Kz (And.intro qb (And.intro A7 (And.intro BM EB)));have Q3:=Kz q3;have Q6:=Kz q6;clear cK hR q3 q6 qb A7 BM EB;go_wp2_with fail;clear q8 zq
    go_loopw [10,11] (fun q9 sO wr=>∃(i:Nat) (M:List Int) (fps:List (List Nat)),Ky (BfR R L.length k i M)∧Ky (Gr V wr)∧Ky (fps.flatten=[])∧bE (α:=Int) V 3 wr q9 fps M∧sO=.int .i64 i) (fun _ sO _=>L.length - (intOf sO).toNat)
    case atStart=>exact⟨0,[(k:Int)],[[]],Kz (BfR.start o9.o),Kz gd,Kz rfl,bE.FB (α:=Int) (w0:=V) (w:=V) 3 (Nat.le_refl _) (g:=V.heap.size) rfl (cs:=#[.int .i64 (k:Int)]) (rO (jm (by omega) (by have:=o9.o;omega)) _),rfl⟩
    case round=>
     obtain⟨i,M,fps,HI,Z,HF,hown,rfl⟩:=hrel
     rename World=>W6
     have ME:=HI.o.length_le;obtain⟨ra,rc,y9⟩:=hown.form;subst y9;obtain⟨fm,bH,E5⟩:=hown.slR (by unfold bn;omega);have HO:=Kz hown;have HS:=Kz bH
     have LP:=Kz (show∀b∈fm,V.heap.size≤b from fun b hb=>by
      rcases E5 with⟨-,rfl⟩|⟨c,hc,rfl⟩
      ·cases hb
      ·rw[HF.o] at hb
       obtain rfl:b=c:=by simpa using hb
       exact(hown.base _ hc).1)
     clear hown E5
     by_cases J:i<M.length
     ·obtain⟨p,uf,LQ,-⟩:=HI.o.2.2.1 _ (List.getElem_mem J)
      have HP:=Kz uf;obtain⟨_,_,he,-,-,o3⟩:=bH.open;injection he with he _ LU;subst he;subst LU;obtain⟨LV,ofM,rfl,-⟩:=o3 i J;have m0:W6.cell? ⟨LV,ofM+i,none⟩=some (.int .i64 (p:Int)):=by rw[←uf];exact(bH.fQ J).1
      obtain⟨ak,ck,c7,MF,hrow⟩:=LG.o p LQ;obtain⟨O,ay⟩:=nm (R p);have uo:=Kz ay;have MC:O.length≤2000:=by rw[ay];exact LH.o p
      rw[←ay] at c7 hrow;have FX:=Kz hrow;have d7:=Z.o.keep c7;have d6:=Z.o.keep Q6.o;have LW:=blk d7;have LX:=blk d6;have LY:=blk m0;have LZ:(0:Int)≤(i:Int):=by omega
      have L6:(i:Int)<(M.length:Int):=by omega
      have p0:(0:Int)≤(p:Int):=by omega
      have p1:(p:Int)<(L.length:Int):=by omega
      clear uf bH o3 ay hrow c7;go_wp2_with fail;refine wg ?_
      iterate 11 (go_big_quiet_step (fail))
      refine wq fun x4=>?_
      have g7:Gr W6 (W6.ext x4):=gd;obtain⟨W7,F4⟩:=nm (W6.ext x4);rw[←F4] at g7 ⊢;have L8:=Kz (Z.o.trans g7);have L9:=Kz (HO.o.gr g7);clear F4 g7 m0 d6 d7 LX LW LY;go_wp2_with fail
      go_loopw [10,13] (fun q9 uq wr=>∃(j:Nat) (M:List Int) (fps:List (List Nat)),j≤O.length∧Ky (BfR R L.length k i M)∧Ky (∃h:i<M.length,M[i]=(p:Int))∧Ky (∀m (h:m<O.length),m<j→((O[m]:Nat):Int)∈M)∧Ky (Gr V wr)∧Ky (fps.flatten=[])∧bE (α:=Int) V 3 wr q9 fps M∧uq=.int .i64 j) (fun _ uq _=>O.length - (intOf uq).toNat)
      case atStart=>exact⟨0,M,fps,by omega,HI,Kz ⟨J,HP.o⟩,Kz (by intros;omega),Kz (tg L8),HF,L9.o.gr gd,rfl⟩
      case round=>
       obtain⟨j,N,aZ,hj,fe,HN,F5,Y,uz,ae,rfl⟩:=hrel
       rename World=>W8
       have MG:=fe.o.length_le;obtain⟨rb,re,ve⟩:=ae.form;subst ve;obtain⟨fn,F6,-⟩:=ae.slR (by unfold bn;omega);have vB:=Kz ae;have F8:=Kz F6;clear ae F6
       by_cases vD:j<O.length
       ·obtain⟨_,_,vF,-,-,Ha⟩:=FX.o.open
        injection vF with vF Ma Mc;clear Ma;subst vF;subst Mc;obtain⟨bR,oR,rfl,-⟩:=Ha j (by simpa using vD);obtain⟨y,hy⟩:=nm (O[j]);have r0:W8.cell? ⟨bR,oR+j,none⟩=some (.int .i64 (y:Int)):=Y.o.keep (by rw[hy];have h:=(FX.o.fQ (i:=j) (by simpa using vD)).1;rw[List.getElem_map] at h;exact h);have zr:=blk r0;have He:=Kz (show y∈R p by rw[←uo.o,hy];exact List.getElem_mem vD);have Md:y<L.length:=Lj.o p y He.o
        have vG:=Kz (show∀N':List Int,(∀z∈N,z∈N')→(y:Int)∈N'→∀m (h:m<O.length),m<j+1→((O[m]:Nat):Int)∈N' from fun N' h1 h2 m h hm=>by
         by_cases Me:m<j
         ·exact h1 _ (F5.o m h Me)
         ·obtain rfl:m=j:=by omega
          rw[←hy];exact h2)
        have j0:(0:Int)≤(j:Int):=by omega
        have j1:(j:Int)<(O.length:Int):=by omega
        have MH:=zI1 j (by omega);clear hy Ha
        by_cases I:(y:Int)∈N
        ·have HA:=Kz (show N.any (fun z=>(y:Int)==z)=true from List.any_eq_true.2 ⟨_,I,by simp⟩)
         have vL:=Kz I;clear I;go_wp2_with fail;refine(Bp _ _ N _ _ F8.o).mono ?_;rintro e w2 ⟨rfl,x5,rfl⟩;rw[HA.o];go_wp2_with fail;exact⟨⟨j+1,N,aZ,by omega,fe,HN,Kz (vG.o N (fun _ h=>h) vL.o),Kz (tg Y),uz,vB.o.gr gd,by go_num⟩,by simp[intOf];omega⟩
        ·have HA:=Kz (show N.any (fun z=>(y:Int)==z)=false by
          rw[List.any_eq_false];intro z hz e
          have e2:(y:Int)=z:=by simpa using e
          exact I (by rw[e2];exact hz))
         have vL:=Kz I;clear I;go_wp2_with fail;refine(Bp _ _ N _ _ F8.o).mono ?_;rintro e w2 ⟨rfl,x5,rfl⟩;rw[HA.o];have g9:Gr W8 (W8.ext x5):=gd;obtain⟨W9,bX⟩:=nm (W8.ext x5);rw[←bX] at g9 ⊢;have fu:=Kz (Y.o.trans g9);have vO:=Kz (vB.o.gr g9);have Mf:=g9.keep r0;have Mg:=blk Mf;have qb:=bB.o.1;clear bX g9 r0 zr
         go_wp2_with (first|(at_builtin;refine bP (α:=Int) (w0:=V) (tg fu) rfl _ _ 54 rfl 3 i1 (.int .i64 0) 8 Tryz.underlying54 bB.o.1 bB.o.2.1 bB.o.2.2.1 bB.o.2.2.2 rfl _ aZ N (by rfl) (vO.o.gr gd) _ [[]] [(y:Int)] (by rfl) (eT.one (by simp) (rO (jm (by omega) (by omega)) _)) (fun b _=>by simp) (by unfold maxLen;simp;omega) (by simp;omega) ?_;intro v3 w3 h1 h2 h3 h4;replace h1:=Kz h1;replace h4:=Kz h4;clear h2 h3))
         obtain⟨gD,gF⟩:=HN.o;exact⟨⟨j+1,N++[(y:Int)],aZ++[[]],by omega,Kz (fe.o.push gD gF He.o Md vL.o),Kz ⟨by simp;omega,by rw[List.getElem_append_left gD];exact gF⟩,Kz (vG.o _ (fun _ h=>List.mem_append_left _ h) (by simp)),h4,Kz (by rw[List.flatten_append,uz.o];rfl),h1.o,by go_num⟩,by simp[intOf];omega⟩
       ·have MI:j=O.length:=by omega
        have Mh:IntKind.i64.wrap ((i:Int)+1)=(i:Int)+1:=IntWalk.i64_in _ (by have:=o9.o;omega);go_wp2_with fail;obtain⟨gD,gF⟩:=HN.o
        exact⟨⟨i+1,N,aZ,Kz (fe.o.next gD gF fun z hz=>by
         rw[←uo.o] at hz;obtain⟨m,hm,rfl⟩:=List.mem_iff_getElem.1 hz;exact F5.o m hm (by omega)),Kz (tg Y),uz,vB.o.gr gd,by go_num⟩,by simp[intOf];omega⟩
     ·have Mi:i=M.length:=by have:=HI.o.1;omega
      subst Mi;have HD:=Kz (fun p=>HI.o.done p);have V6:=Kz (V5.o.gr Z.o);obtain⟨O0,gT⟩:=nm ((some (w.heap.size+1+1+1):Option Nat));have Mj:=Kz gT
      have vR:=Kz (show∀c o v,W6.cell? ⟨c,o,none⟩=some v→c∉O0.toList from fun c o v hc hm=>by
       rw[gT] at hm;simp at hm;exact IC V6.o hc hm)
      have Mk:=Kz (show∀b∈fm,b∉O0.toList from fun b hb hm=>by
       rw[gT] at hm;simp at hm;have h1:=LP.o b hb;have h2:=LM.o;omega)
      have Ml:=Kz (LJ.o.gr Z.o);have Mm:=Kz (LK.o.trans Z.o);have HY:=Kz (zL.o.gr (oH.o.gr.trans Z.o));have H5:=Kz (Z.o.keep Q3.o);clear J bH gT;go_wp2_with fail
      go_loopw [7,14] (fun s7 vX wr=>∃(i:Nat) (fps:List (List Nat)),i≤L.length∧Ky (fps.flatten=[])∧Ky (Gr A3 wr)∧Ky (Wr O0.toList W6 wr)∧Ky (s7.ownBlock=O0∨∃n,s7.ownBlock=some n∧W6.heap.size≤n)∧bE (α:=av) A3 45 wr s7 fps (slcT L R k i)∧vX=.int .i64 i) (fun _ vX _=>L.length - (intOf vX).toNat)
      case atStart=>exact⟨0,[],by omega,Kz rfl,Mm,Kz (Wr.refl _ _),Kz (.inl Mj.o.symm),Ml.o,rfl⟩
      case round=>
       obtain⟨i,cO,hi,wF,wL,ax,HV,bg,rfl⟩:=hrel
       rename World=>W7
       have Mo:=slcT_len L R k i;have gV:=Kz bg;obtain⟨rx,IV,cB⟩:=bg.form;obtain⟨T,hT⟩:=nm (slcT L R k i);rw[←hT] at cB Mo gV;have xc:=Kz hT;have e3:=ax.o.aO H5.o (vR.o _ _ _ H5.o);have Mq:=blk e3;have K3:=Kz (HS.o.wr ax.o Mk.o);clear bg hT;subst cB
       by_cases J:i<L.length
       ·obtain⟨_,_,x9,-,-,K4⟩:=HY.o.open
        injection x9 with x9 _ Mr;subst x9;subst Mr;obtain⟨bL,oL,rfl,-⟩:=K4 i J;obtain⟨l0,l1,gX,ik⟩:=SlR.iX HY.o J;obtain⟨X,yc⟩:=nm (L[i]);have Ms:=Kz (show L.getD i iN=X by rw[yc];exact getD_at J);rw[←yc] at l0 l1 gX ik;obtain⟨u0,u1⟩:=X;simp only at l0 l1 gX ik;have K6:=Kz (And.intro gX ik);have l2:=ax.o.aO l0 (vR.o _ _ _ l0);have l3:=ax.o.aO l1 (vR.o _ _ _ l1);have zl:=blk l2;have LZ:(0:Int)≤(i:Int):=by omega
        have L6:(i:Int)<(L.length:Int):=by omega
        have Mh:=zI1 i (by omega);clear K4 l0 l1 gX ik yc
        by_cases I:(i:Int)∈M
        ·have HA:=Kz (show M.any (fun z=>(i:Int)==z)=true from List.any_eq_true.2 ⟨_,I,by simp⟩)
         have yu:=Kz (show slcT L R k (i+1)=T++[(u0,u1)] by rw[slcT_yes ((HD.o i).1 I),←xc.o,Ms.o]);clear I;go_wp2_with fail;refine(Bp _ _ M _ _ K3.o).mono ?_;rintro e w2 ⟨rfl,x5,rfl⟩;rw[HA.o];have g9:Gr W7 (W7.ext x5):=gd;obtain⟨W9,bX⟩:=nm (W7.ext x5);rw[←bX] at g9 ⊢;have fu:=Kz (wL.o.trans g9);have vO:=Kz (gV.o.gr g9);have y5:=Kz (ax.o.trans (g9.eF _));have r3:=g9.keep e3;have m2:=g9.keep l2;have m3:=g9.keep l3;have Mg:=blk r3;have MJ:=blk m2;have MK:=HZ.o.1;clear bX g9 e3 l2 l3 Mq zl
         go_wp2_with (first|(at_builtin;refine eU (α:=av) (wg:=A3) (w0:=A3) (tg fu) (Nat.le_refl _) (tg fu).size rfl _ _ 34 rfl 45 i0 _ _ Tryz.underlying34 HZ.o.1 HZ.o.2.1 HZ.o.2.2.1 HZ.o.2.2.2 rfl _ cO T (by rfl) (vO.o.gr gd) _ [[]] [(u0,u1)] (by rfl) (eT.one (by simp) (bZ u0 u1 K6.o.1 K6.o.2)) (fun b _=>by simp) (by unfold maxLen;simp;omega) (by simp;omega) ?_;intro v9 w9 k1 k2 k3 k4;replace k1:=Kz k1;replace k2:=Kz k2;replace k3:=Kz k3;replace k4:=Kz k4))
         have La:Wr (Value.slice rx T.length IV).ownBlock.toList _ w9:=k2.o;have Li:v9.ownBlock=(Value.slice rx T.length IV).ownBlock∨_:=k3.o;have Mt:=Kz La;have Mv:=Kz Li;clear La Li;refine⟨⟨i+1,cO++[[]],by omega,Kz (by rw[List.flatten_append,wF.o];rfl),k4,Kz (y5.o.more HV.o (((gd:Gr W9 _).eF _).trans Mt.o)),Kz (tq HV.o Mv.o (Nat.le_trans y5.o.size (by simp<;>omega))),?_,by go_num⟩,by simp[intOf];omega⟩;rw[yu.o];exact k1.o
        ·have HA:=Kz (show M.any (fun z=>(i:Int)==z)=false by
          rw[List.any_eq_false];intro z hz e
          have e2:(i:Int)=z:=by simpa using e
          exact I (by rw[e2];exact hz))
         have yu:=Kz (show slcT L R k (i+1)=T by rw[slcT_no (fun h=>I ((HD.o i).2 h)),←xc.o]);clear I;go_wp2_with fail;refine(Bp _ _ M _ _ K3.o).mono ?_;rintro e w2 ⟨rfl,x5,rfl⟩;rw[HA.o];go_wp2_with fail;refine⟨⟨i+1,cO,by omega,wF,Kz (tg wL),Kz (ax.o.trans ((gd:Gr W7 _).eF _)),HV,?_,by go_num⟩,by simp[intOf];omega⟩;rw[yu.o];exact gV.o.gr gd
       ·obtain rfl:i=L.length:=by omega
        obtain⟨fq,hs,hf⟩:=gV.o.fresh (by unfold bn;omega) (by rw[wF.o];exact aY.nil _);have Mw:=Kz hs;have Mx:=Kz (hf.of_le zu.o.size);have MB:=Kz (show sliceOf g t (q,D)=T by rw[au.o,xc.o]);clear hs hf;go_wp2_with fail;go_ret;exact⟨_,fq,rfl,by rw[MB.o];exact Mw.o.gr gd,Mx.o,zu.o.trans (tg wL)⟩
  ·rw[ah] at U
   have au:=Kz (show sliceOf g t (q,D)=[] from U.o);clear ah;go_wp2_with fail;go_ret;rw[au.o];exact⟨_,[],rfl,⟨_,0,rfl,by simp,by simp,.inl ⟨rfl,rfl⟩⟩,aY.nil _,ai.o.trans (tg aj)⟩
 ·have HR:=Kz (show sliceOf g t (q,D)=[] by unfold sliceOf;rw[if_neg K])
  have kr:=Kz (show kT g t=false from eq_false_of_ne_true K);clear K;go_in;go_wp2_with fail;refine(uW g t _ (Rd.gr Z.o gd) (Rd.gr HT.o gd) iw.o zg.o).mono ?_;rw[kr.o];rintro e B ⟨rfl,gB⟩;have ai:=Kz (Gr.trans gd gB:Gr w B);go_wp2_with fail;go_ret;rw[HR.o];exact⟨_,[],rfl,⟨_,0,rfl,by simp,by simp,.inl ⟨rfl,rfl⟩⟩,aY.nil _,ai.o.trans gd⟩
def SlcAt(w:World)(xs:List av)(e:Ending)(w':World):Prop:=∃h v fq,e=.returned (.tuple #[h,v])∧SlR fq w' v xs∧aY w fq∧Gr w w'
theorem sliceI_any{fg ft:List Nat}(g:af d)(t:List aT)(x:av){ag0:Option Addr}{kg0:Nat}{ag1:Option Addr}{kg1:Nat}{at_:Option Addr}{kt:Nat}(w:World)(hg:Rd.rd fg w [.slice ag0 g.1.length kg0,.slice ag1 g.2.length kg1] g)(ht:Rd.rd ft w [.slice at_ t.length kt] t)(vB:(Lit.int .i64 x.1).wf=true)(vD:x.2.size≤maxLen)(hl:aP g≤1048576)(ai:gY t≤1048576):
  Calls Tryz.prog 54 #[.agg #[.slice ag0 g.1.length kg0,.slice ag1 g.2.length kg1],.agg #[.slice at_ t.length kt],.agg #[.int .i64 x.1,.string x.2]] w (SlcAt w (sliceOf g t x)):=by
 have J:=Kz hg;have HT:=Kz ht;have gF:=Kz hl;have He:=Kz ai;have HX:=Kz (And.intro vB vD);obtain⟨q,D⟩:=x;clear hg ht hl ai vB vD
 by_cases I:kT g t=true
 ·have Y:=Kz (show jI g from dx.1 (by unfold kT at I;simp at I;exact I.1))
  have gT:=Kz (show fP g t=true by unfold kT at I;simp at I;exact I.2);have Z:=Kz (show sliceOf g t (q,D)=(match sW g t [(q,D)] with|none=>[]|some s=>if gL (bU g t) (q,D)<0 then[] else slcT (bU g t) (fun j=>s.reads.getD j []) (gL (bU g t) (q,D)).toNat (bU g t).length) by unfold sliceOf;rw[if_pos I];all_goals(cases sW g t [(q,D)]<;>rfl));clear I;have vF:=jX Y.o gT.o;have HV:=Kz (insts_nodup (t:=t) Y.o);go_in;go_wp2_with fail;obtain⟨B,hB⟩:=nm (((w.alloc (.cells #[.slice ag0 g.1.length kg0,.slice ag1 g.2.length kg1] 39)).alloc (.cells #[.slice at_ t.length kt] 43)).alloc (.cells #[.int .i64 q,.string D] 45));rw[←hB];have gB:Gr w B:=by rw[hB];exact gd
  have aj:=Kz gB;have VX:=Kz (show az B (w.heap.size+1+1) 45 [.int .i64 q,.string D] by rw[hB];exact az.new (by simp));clear hB gB;refine(AU g t _ (Rd.gr J.o aj.o) (Rd.gr HT.o aj.o) gF.o Y.o gT.o).mono ?_;rintro e W2 ⟨w1,aL,kL,bz,bv,bk,bs,br,fp,rfl,g1,⟨fl,bX⟩,hc⟩;have gV:=Kz (aj.o.trans g1);have bH:=Kz (g1.trans hc.gr);have F4:=Kz g1;obtain⟨L,hL⟩:=nm (bU g t);rw[←hL] at bX hc Z;have HL:=Kz hL;have vG:=Kz bX;have HC:=Kz hc;have HE:=Kz (show EnvD w1 g t L ag0 kg0 ag1 kg1 at_ kt aL kL from⟨⟨fg,Rd.gr J.o gV.o⟩,⟨ft,Rd.gr HT.o gV.o⟩,⟨fl,bX⟩,Y.o,gT.o,hL,gF.o,He.o⟩);have F5:=Kz (Dy (bz:=bz) (bv:=bv) (bk:=bk) (bs:=bs) (br:=br) HE.o L.length);obtain⟨KX,au⟩:=nm (gL L (q,D));obtain⟨RG,gX⟩:=nm (yH g t L L.length (Eng.new L.length) KX (-1))
  have F6:=Kz (show sW g t [(q,D)]=RG.map (·.2) by
   rw[gX,au,hL];rfl)
  rw[F6.o,←au] at Z;have ik:=Kz au;have HY:=Kz gX;have H5:=Kz (show KX<L.length∧-1≤KX by rw[au];have:=kS L (q,D);omega);have IV:=Kz (fun W=>bZ (w:=W) q D HX.o.1 HX.o.2);have vL:=Kz (fun x:Ext=>wH L (q,D) (W2.ext x) (vG.o.gr (HC.o.gr.trans gd)) (IV.o _));rw[←au] at vL;obtain⟨y0,y1,y2,y3,y9⟩:=hc.fixed;have zy:=blk y0;have f3:W2.cell? ⟨w.heap.size+1+1,0,none⟩=some (.int .i64 q):=bH.o.keep (VX.o.c 0);have f4:W2.cell? ⟨w.heap.size+1+1,1,none⟩=some (.string D):=bH.o.keep (VX.o.c 1);have zf:=blk f3;clear g1 bX hc hL au gX;go_simp;go_wp2_with fail;refine wg ?_
  iterate 11 (go_big_quiet_step (first|(go_at_call 43;exact aG (vL.o _))))
  refine wq fun x2=>?_
  obtain⟨W5,iw⟩:=nm (W2.ext x2);have g5:Gr W2 W5:=by rw[iw];exact gd
  rw[←iw];have K3:=Kz (HC.o.grow g5);have K4:=Kz (bH.o.trans g5);have q3:=g5.keep f3;have q4:=g5.keep f4;have zq:=blk q3;clear iw g5 y0 y1 y2 y3 y9 zy f3 f4 zf
  by_cases kr:KX<0
  ·have ax:=Kz (show sliceOf g t (q,D)=[] by
    rw[Z.o]
    cases RG with
    |none=>rfl
    |some p=>exact if_pos kr)
   have hd:decide (KX<0)=true:=by simpa using kr
   go_wp2_with fail;exact bodyPost_ret (v:=.tuple #[.pointer none,.slice none 0 0]) (by simp[results,Tryz.results54,go_sem]) rfl ⟨_,_,[],rfl,by rw[ax.o];exact SlR.nil _,aY.nil _,aj.o.trans (tg K4)⟩
  ·obtain⟨k,rfl⟩:∃k:Nat,KX=k:=⟨KX.toNat,by omega⟩
   have K6:=Kz (show k<L.length by have:=H5.o.1;omega);have hd:decide ((k:Int)<0)=false:=by simp
   go_wp2_with fail;refine(F5.o fp (some (Eng.new L.length)) _ (q,D) (-1) HX.o.1 HX.o.2 ⟨K3.o.grow gd,EE _⟩ (.inl (by decide))).mono ?_;rintro e U ⟨v6,f6,rfl,-,cB,-,vO⟩;rw[Option.bind_some,←ik.o,←HY.o] at cB;obtain⟨s,cyc,K,ve⟩:=cB.core;have vR:=Kz K;have c9:U.cell? ⟨bz,9,none⟩=some (.bool cyc):=K.fixed.2.2.2.2;have c3:U.cell? ⟨bz,3,none⟩=some (.slice aL L.length kL):=K.hz.c 3;have c7:U.cell? ⟨bz,7,none⟩=some (.slice (some ⟨br,0,none⟩) L.length L.length):=K.hz.c 7;have zc:=blk c9;have ku:=Kz (gV.o.trans K.gr);have La:=Kz (VX.o.gr (F4.o.trans K.gr));obtain⟨vX,Li⟩:=La.o.c2;have zj:=blk vX;rcases ve with⟨ae,rfl,O⟩|⟨ae,rfl⟩
   ·have ax:=Kz (show sliceOf g t (q,D)=slcT L (fun j=>s.reads.getD j []) k L.length by
     rw[Z.o,ae];exact(if_neg (by omega)).trans (by rw[Int.toNat_natCast]))
    obtain⟨R,hR⟩:∃R:Nat→List Nat,R=fun j=>s.reads.getD j []:=⟨_,rfl⟩
    have Lj:=Kz (show∀p,p<L.length→∃ak ck fq,U.cell? ⟨br,p,none⟩=some (.slice ak (l7 L (R p)).length ck)∧SlR fq U (.slice ak (l7 L (R p)).length ck) (l7 L (R p)) from fun p hp=>by
     rw[hR];obtain⟨ak,ck,fq,h1,h2,-⟩:=vR.o.Et hp (O.len p);exact⟨ak,ck,fq,h1,h2⟩)
    have F8:=Kz (show∀p,∀m∈R p,m<L.length from fun p=>by rw[hR];exact O.mem p);have Lm:=Kz (show∀p,(R p).length≤2000 from fun p=>by rw[hR];exact O.len p);rw[←hR] at ax
    have Ls:=Kz (show l7 L [k]=[(q,D)] by
     rcases ui L (q,D) with h|⟨m,h,hm,hx⟩
     ·have:=ik.o;omega
     ·have:=ik.o
      obtain rfl:k=m:=by omega
      show[L.getD k iN]=_
      rw[getD_at hm,hx])
    have Lv:=Kz (show L.length≤64 by rw[HL.o];exact vF);have Mf:L.length≤64:=Lv.o;obtain⟨i2,fi,wF,wL,w9⟩:=info_parts Tryz.Ee;have bq:=fun(W:World)=>run_make (P:=Tryz.prog) W 55 4 i2 (.bool false) Tryz.underlying55 fi wF .i64 .i64 L.length L.length (by omega) (by omega) (by rw[w9];omega) (by omega)
    rw[wL] at bq;clear fi wF wL w9;simp only[Int.toNat_natCast,Nat.mul_one] at bq;have xc:(Value.bool false).cells=#[.bool false]:=rfl;rw[xc] at bq;have ky:=Kz (show(madeCells #[.bool false] L.length).toList=List.replicate L.length (.bool false) by rw[toList_madeCells_one]);generalize madeCells #[.bool false] L.length=C3 at bq ky;obtain⟨i0,hi,x9,yc,yu⟩:=info_parts Tryz.o6;have HZ:=Kz (And.intro hi (And.intro x9 (And.intro yc yu)));have y5:=Kz c3;have Lx:=Kz c7;have lq:=Kz (vG.o.gr vR.o.gr);clear cB K vO ae O hR xc hi x9 yc yu q3 q4 zq vF;go_wp2_with fail
    go_cut [10,11] (fun LA ah wr=>Met2 U L.length (q,D) LA ah wr)
    case first=>
     go_region
     all_goals
      go_wp2_with fail;go_meet
      first
       |exact Met2.a ky.o HX.o
       |exact Met2.b ky.o HX.o
    case rest=>
     obtain⟨V,rfl,LB,y7,LC,LD,hq⟩:=hcut
     rename World=>W7
     have LF:=Kz y7;rw[←Ls.o] at hq;clear c9 c3 c7 zc vX Li zj bq y7;go_wp2_with fail
     go_loopg [11] (2001*L.length+1) (fun gg ah wr=>∃(fl:List Bool) (T:List Nat),Ky (QInv R L.length k fl T)∧Ky (Gr U wr)∧az wr V 4 (fl.map Value.bool)∧Ky (ah.ownBlock≠some V)∧QuI U.heap.size wr ah (l7 L T)∧gg=2001*fl.count false+T.length∧gg≤2001*L.length+1)
     case atStart=>exact⟨List.replicate L.length false,[k],Kz (QInv.start K6.o),Kz LC,by simpa using LB,Kz LD,hq,by simp,by omega⟩
     case round=>
      obtain⟨fl,T,HI,J,hm,LG,hq,ay,Mg⟩:=hrel
      rename World=>W8
      have Mi:fl.length=L.length:=HI.o.1;have cK:=Kz hm
      cases T with
      |nil=>
       obtain⟨aq,cq,y8⟩:=hq.formT;rw[show(l7 L []).length=0 from rfl] at y8;subst y8;have HD:=Kz (fun p=>HI.o.done p);clear hq hm ay;have LH:=HZ.o.1;have a3:=J.o.keep y5.o;have za:=blk a3;go_wp2_with fail
       go_loopw [13,84] (fun LJ oH wr=>∃(i:Nat) (fps:List (List Nat)),i≤L.length∧Ky (fps.flatten=[])∧Ky (Gr W8 wr)∧bE (α:=av) W8 45 wr LJ fps (slcT L R k i)∧oH=.int .i64 i) (fun _ oH _=>L.length - (intOf oH).toNat)
       case atStart=>exact⟨0,[],by omega,Kz rfl,Kz gd,bE.kF (α:=av) (w0:=W8) (w:=W8) 45 (Nat.le_refl _) rfl,rfl⟩
       case round=>
        obtain⟨i,bR,hi,o5,aZ,bg,rfl⟩:=hrel
        rename World=>W9
        have zb:=slcT_len L R k i;have cO:=Kz bg;obtain⟨rx,LK,bB⟩:=bg.form;obtain⟨T,hT⟩:=nm (slcT L R k i);rw[←hT] at bB zb cO;have o9:=Kz hT;clear bg hT;subst bB
        by_cases ai:i<L.length
        ·obtain⟨_,_,qb,-,-,ze⟩:=lq.o.open
         injection qb with qb _ LM;subst qb;subst LM;obtain⟨bL,oL,rfl,-⟩:=ze i ai;obtain⟨l0,l1,dB,dS⟩:=SlR.iX lq.o ai;obtain⟨X,q8⟩:=nm (L[i]);have LP:=Kz (show L.getD i iN=X by rw[q8];exact getD_at ai);rw[←q8] at l0 l1 dB dS;obtain⟨u0,u1⟩:=X;simp only at l0 l1 dB dS;have zg:=Kz (And.intro dB dS);have l2:=(J.o.trans aZ.o).keep l0;have l3:=(J.o.trans aZ.o).keep l1;have zl:=blk l2;obtain⟨b,hb⟩:=nm (fl[i]'(by omega));have m0:W9.cell? ⟨V,i,none⟩=some (.bool b):=aZ.o.keep (by rw[cK.o.cell (k:=i) (by simpa using(by omega:i<fl.length))];simp[hb]);have zo:=blk m0;have HB:=Kz (show fl[i]?=some b by rw[List.getElem?_eq_getElem (by omega),hb]);have LQ:(0:Int)≤(i:Int):=by omega
         have LU:(i:Int)<(L.length:Int):=by omega
         have Mj:=zI1 i (by omega);clear ze l0 l1 dB dS q8 hb
         cases b with
         |true=>
          have q9:=Kz (show slcT L R k (i+1)=T++[(u0,u1)] by rw[slcT_yes ((HD.o i).1 HB.o),←o9.o,LP.o])
          go_wp2_with (first|(at_builtin;refine bP (α:=av) (w0:=W8) (tg aZ) rfl _ _ 34 rfl 45 i0 _ _ Tryz.underlying34 HZ.o.1 HZ.o.2.1 HZ.o.2.2.1 HZ.o.2.2.2 rfl _ bR T (by rfl) (cO.o.gr gd) _ [[]] [(u0,u1)] (by rfl) (eT.one (by simp) (bZ u0 u1 zg.o.1 zg.o.2)) (fun b _=>by simp) (by unfold maxLen;simp;omega) (by simp;omega) ?_;intro v3 w3 h1 h2 h3 h4;replace h1:=Kz h1;replace h4:=Kz h4;clear h2 h3))
          refine⟨⟨i+1,bR++[[]],by omega,Kz (by rw[List.flatten_append,o5.o];rfl),h4,?_,by go_num⟩,by simp[intOf];omega⟩;rw[q9.o];exact h1.o
         |false=>
          have q9:=Kz (show slcT L R k (i+1)=T by rw[slcT_no (fun h=>by have:=(HD.o i).2 h;rw[HB.o] at this;cases this),←o9.o]);go_wp2_with fail;refine⟨⟨i+1,bR,by omega,o5,Kz (tg aZ),?_,by go_num⟩,by simp[intOf];omega⟩;rw[q9.o];exact cO.o.gr gd
        ·obtain rfl:i=L.length:=by omega
         obtain⟨fq,hs,hf⟩:=cO.o.fresh (by unfold bn;omega) (by rw[o5.o];exact aY.nil _);have LV:=Kz hs;have LW:=Kz (hf.of_le (ku.o.trans J.o).size);have LX:=Kz (show sliceOf g t (q,D)=T by rw[ax.o,o9.o]);clear hs hf;go_wp2_with fail;exact bodyPost_ret (v:=.tuple #[.pointer (some ⟨bz,0,none⟩),.slice rx T.length LK]) (by simp[results,Tryz.results54,go_sem]) rfl ⟨_,_,fq,rfl,by rw[LX.o];exact LV.o.gr gd,LW.o,ku.o.trans (J.o.trans (tg aZ))⟩
      |cons i T=>
       have zu:=(HI.o.2.1 i (by simp)).1;obtain⟨X,hX⟩:=nm (L.getD i iN);have dV:=hq;rw[show l7 L (i::T)=L.getD i iN::l7 L T from rfl,←hX] at dV;obtain⟨sO,off,cap,hv,zx,Mk,Ml,LY,Mm,O,d0,d1⟩:=dV.head;have eL:(l7 L T).length=T.length:=List.length_map _;rw[eL] at hv LY;subst hv;have LZ:=Kz (show gL L X=i by rw[hX];exact insIx_self (show L.Nodup by rw[HL.o];exact HV.o) zu);obtain⟨u0,u1⟩:=X;simp only at d0 d1;have uf:=Kz (fun x:Ext=>wH L (u0,u1) (W8.ext x) (lq.o.gr (tg J)) (bZ u0 u1 O.1 O.2));rw[LZ.o] at uf;have HQ:=Kz dV;have zH:=Kz (show sO≠V from fun e=>LG.o (by rw[e];rfl));have L6:=Kz zx;have a3:=J.o.keep y5.o;have a7:=J.o.keep Lx.o;have za:=blk a3;have L8:=blk a7;obtain⟨b,hb⟩:=nm (fl[i]'(by omega));have HB:=Kz (show fl[i]?=some b by rw[List.getElem?_eq_getElem (by omega),hb]);have m0:W8.cell? ⟨V,i,none⟩=some (.bool b):=by rw[cK.o.cell (k:=i) (by simpa using(by omega:i<fl.length))];simp[hb]
       have zo:=blk m0;have LQ:(0:Int)≤(i:Int):=by omega
       have LU:(i:Int)<(L.length:Int):=by omega
       obtain⟨ak,ck,fr,r7,hrow⟩:=Lj.o i zu;have L9:=Kz hrow;have r8:=J.o.keep r7;have zr:=blk r8;have Mo:(0:Int)<(T.length:Int)+1:=by omega
       clear hX hq dV hb zx O hm hrow r7 eL;go_wp2_with fail;refine wg ?_
       iterate 9 (go_big_quiet_step (first|(go_at_call 43;exact aG (uf.o _))))
       refine wq fun x5=>?_
       have g9:Gr W8 (W8.ext x5):=gd;obtain⟨W9,zL⟩:=nm (W8.ext x5);rw[←zL] at g9 ⊢;have fe:=Kz (J.o.trans g9);have zO:=Kz (HQ.o.gr g9);have z8:=Kz (cK.o.gr g9);have Ha:=Kz (show W8.heap.size≤W9.heap.size from g9.size);have n0:=g9.keep m0;have n7:=g9.keep a7;have n8:=g9.keep r8;have zn:=blk n0;have Mq:=blk n7;have Mr:=blk n8;have Ma:=Kz (L9.o.gr fe.o);clear zL g9 d0 d1 a3 za a7 L8 m0 zo r8 zr
       go_upto_region 10 with fail
       go_cut [11] (fun ah wr=>QuI U.heap.size wr ah (l7 L T)∧ah.ownBlock=some sO∧wr=W9)
       case first=>
        by_cases Mc:cap=1
        ·subst Mc
         have fu:=zO.o.tail.2 rfl;go_wp2_with fail;go_meet;exact⟨fu,rfl,rfl⟩
        ·have fu:=zO.o.tail.1
         have eL:(l7 L T).length=T.length:=List.length_map _;rw[eL] at fu;have Ms:1<cap:=by omega
         go_wp2_with fail;go_meet;exact⟨fu,rfl,rfl⟩
       case rest=>
        obtain⟨gD,uo,hw⟩:=hcut;subst hw
        cases b with
        |true=>
         go_wp2_with fail
         go_roundg (2001*fl.count false+T.length)
         case measure=>simp at ay;omega
         case rel=>exact⟨fl,T,Kz (HI.o.skip HB.o),Kz (tg fe),z8.o.gr gd,Kz (by rw[uo];exact fun e=>zH.o (Option.some.inj e)),gD.gr gd,rfl,by simp at ay;omega⟩
        |false=>
         obtain⟨aq,cq,A7⟩:=gD.formT;rw[show(l7 L T).length=T.length from List.length_map _] at A7;subst A7;have Md:=Kz gD;have Mh:=Lm.o i;have zb:T.length≤200000:=by simp at ay;omega
         have LH:=HZ.o.1
         have BM:=Kz (show∀b∈(Value.slice aq T.length cq).ownBlock.toList,U.heap.size≤b∧b≠V from fun b hb=>by
          rw[uo] at hb;have e:b=sO:=by simpa using hb
          rw[e];exact⟨L6.o,zH.o⟩)
         have EB:=count_set HB.o;have E5:=Kz EB;clear gD uo EB
         go_wp2_with (first|(at_builtin;refine wpList_append_quI (base:=U.heap.size) (w0:=U) (tg fe) (Nat.le_refl _) (tg fe).size rfl _ _ 34 rfl 45 i0 (.agg #[.int .i64 0,.string ByteArray.empty]) Tryz.underlying34 HZ.o.1 HZ.o.2.1 HZ.o.2.2.1 HZ.o.2.2.2 rfl _ (l7 L T) (by rfl) (Md.o.gr gd) (l7 L (R i)) (by rfl) (Ma.o.gr gd) (by unfold l7;simp;omega) ?_;intro v3 w3 k1 k2 k3 k4;replace k1:=Kz k1;replace k2:=Kz k2;replace k3:=Kz k3;replace k4:=Kz k4;have uq:=Kz (show az w3 V 4 (fl.map Value.bool) from az.wr z8.o k2.o (fun hm=>(BM.o _ hm).2 rfl));have d1:w3.cell? ⟨V,i,none⟩=some (.bool false):=(by rw[uq.o.cell (k:=i) (by simpa using(by omega:i<fl.length))];rw[List.getElem_map];exact congrArg (fun x=>some (Value.bool x)) (by have h1:=HB.o;rw[List.getElem?_eq_getElem (by omega)] at h1;exact Option.some.inj h1));have f1:=uq.o.frozen i;have Mt:=blk d1))
         have uz:∀b,v3.ownBlock=some b→b∉[V]:=fun b hb hm=>by
          obtain rfl:b=V:=by simpa using hm
          rcases k4.o with e|e
          ·rw[e] at hb
           exact(BM.o b (by rw[hb];simp)).2 rfl
          ·rw[hb] at e
           have h1:=Option.some.inj e;have h2:=cK.o.lt;have h3:=Ha.o;omega
         have FX:=Kz uz;clear uz
         go_roundg (2001*(fl.set i true).count false+(T.length+(R i).length))
         case measure=>have:=E5.o;simp at ay;omega
         case rel=>
          refine⟨fl.set i true,T++R i,Kz (HI.o.take (F8.o i)),Kz (k3.o.setCell LF.o _),?_,Kz (fun e=>FX.o V e (by simp)),?_,by simp,by have:=E5.o;simp at ay;omega⟩
          ·rw[List.map_set]
           exact uq.o.set i (.bool true)
          ·rw[show l7 L (T++R i)=l7 L T++l7 L (R i) from List.map_append]
           exact k1.o.wr ((Wr.refl [V] _).setCell (by simp) _) FX.o
   ·have ax:=Kz (show sliceOf g t (q,D)=[] by rw[Z.o,ae])
    clear cB K vO ae q3 q4 zq;go_wp2_with fail;exact bodyPost_ret (v:=.tuple #[.pointer none,.slice none 0 0]) (by simp[results,Tryz.results54,go_sem]) rfl ⟨_,_,[],rfl,by rw[ax.o];exact SlR.nil _,aY.nil _,ku.o.trans gd⟩
 ·have HR:=Kz (show sliceOf g t (q,D)=[] by unfold sliceOf;rw[if_neg I])
  have Me:=Kz (show kT g t=false from eq_false_of_ne_true I);clear I;go_in;go_wp2_with fail;refine(Cg g t _ (Rd.gr J.o gd) (Rd.gr HT.o gd) gF.o Me.o).mono ?_;rintro e B ⟨rfl,gB⟩;have aj:=Kz (Gr.trans gd gB:Gr w B);go_simp;go_wp2_with fail;refine wg ?_
  iterate 11 (go_big_quiet_step (fail))
  refine wq fun x2=>?_
  go_wp2_with fail;exact bodyPost_ret (v:=.tuple #[.pointer none,.slice none 0 0]) (by simp[results,Tryz.results54,go_sem]) rfl ⟨_,_,[],rfl,by rw[HR.o];exact SlR.nil _,aY.nil _,aj.o.trans gd⟩
theorem sliceOf_in{g:af d}{t:List aT}{x:av}:(sliceOf g t x).length≤64∧∀y∈sliceOf g t x,fM y≤8:=by
 unfold sliceOf
 split
 ·rename_i hg
  unfold kT at hg;simp only[Bool.and_eq_true] at hg;have hgood:jI g:=dx.1 hg.1
  split
  ·simp
  ·split
   ·simp
   ·refine⟨Nat.le_trans (slcT_len _ _ _ _) (jX hgood hg.2),fun y h=>?_⟩
    unfold slcT at h;obtain⟨j,-,rfl⟩:=List.mem_map.1 h
    by_cases q:j<(bU g t).length
    ·rw[getD_at q]
     exact Eo hgood _ (List.getElem_mem q)
    ·rw[sw (by omega)]
     show(ByteArray.empty).size≤8
     decide
 ·simp
theorem sliceOf_wt{g:af d}{t:List aT}{x:av}:kP (sliceOf g t x)≤1048576:=by
 have h1:=sliceOf_in (g:=g) (t:=t) (x:=x);have h:=Ig fM (sliceOf g t x) h1.2;unfold kP;omega
theorem sliceO_any{fg ft:List Nat}(g:af d)(t:List aT)(x:av){ag0:Option Addr}{kg0:Nat}{ag1:Option Addr}{kg1:Nat}{at_:Option Addr}{kt:Nat}(w:World)(hg:Rd.rd fg w [.slice ag0 g.1.length kg0,.slice ag1 g.2.length kg1] g)(ht:Rd.rd ft w [.slice at_ t.length kt] t)(h:(Lit.int .i64 x.1).wf=true)(q:x.2.size≤maxLen)(I:aP g≤1048576)(B:gY t≤1048576):
  Calls Tryz.prog 23 #[.agg #[.slice ag0 g.1.length kg0,.slice ag1 g.2.length kg1],.agg #[.slice at_ t.length kt],.agg #[.int .i64 x.1,.string x.2]] w (p8 w (sliceOf g t x)):=by
 obtain⟨O,T⟩:=x;have U:=Kz hg;have V:=Kz ht;have J:=Kz (And.intro h q);have D:=Kz (And.intro I B);clear hg ht h q I B;go_in;go_wp2_with fail;refine(sliceI_any g t (O,T) _ (Rd.gr U.o gd) (Rd.gr V.o gd) J.o.1 J.o.2 D.o.1 D.o.2).mono ?_;rintro e X ⟨pv,v,fq,rfl,hs,K,hg⟩;obtain⟨va,vc,rfl,-,-,-⟩:=hs.open;have Y:=Kz hs;have Z:=Kz (K.of_le (Gr.size gd):aY w fq);have HW:=Kz (Gr.trans gd hg:Gr w X);clear hs K hg;go_simp;go_wp2_with fail;go_ret;exact⟨_,fq,rfl,Y.o.gr gd,Z.o,HW.o.trans gd⟩
theorem specSlc_any{fg ft fx:List Nat}{cg ct cx:Array Value}(g:af d)(t:fU)(x:av)(w:World)(hg:Rd.rd fg w cg.toList g)(ht:Rd.rd ft w ct.toList t)(T:Rd.rd fx w cx.toList x)(U:aP g≤1048576)(h:gY t≤1048576):
  Calls Tryz.prog 22 #[.agg cg,.agg ct,.agg cx] w (p8 w (sliceOf g t x)):=by
 have V:=hg;have X:=ht;obtain⟨g0,g1⟩:=g;obtain⟨ah,ai,aj,ak,rfl,Y,q,B⟩:=aB g0 g1 hg;obtain⟨ag0,kg0,rfl,-,-,-⟩:=q.open;obtain⟨ag1,kg1,rfl,-,-,-⟩:=B.open;obtain⟨t0,rfl⟩:∃y,y=t:=⟨t,rfl⟩;obtain⟨au,ax,rfl,Z,D⟩:=bY t0 ht;obtain⟨ay,aZ,rfl,-,-,-⟩:=D.open;obtain⟨I,J⟩:=x;obtain⟨rfl,ae,K,O⟩:=bK I J T;exact sliceS_any (g0,g1) t0 (I,J) w V X K O U (Nat.le_trans (bT fT t0) h) h
theorem implSlc_any{fg ft fx:List Nat}{cg ct cx:Array Value}(g:af d)(t:fU)(x:av)(w:World)(hg:Rd.rd fg w cg.toList g)(ht:Rd.rd ft w ct.toList t)(T:Rd.rd fx w cx.toList x)(U:aP g≤1048576)(h:gY t≤1048576):
  Calls Tryz.prog 23 #[.agg cg,.agg ct,.agg cx] w (p8 w (sliceOf g t x)):=by
 have V:=hg;have X:=ht;obtain⟨g0,g1⟩:=g;obtain⟨ah,ai,aj,ak,rfl,Y,q,B⟩:=aB g0 g1 hg;obtain⟨ag0,kg0,rfl,-,-,-⟩:=q.open;obtain⟨ag1,kg1,rfl,-,-,-⟩:=B.open;obtain⟨t0,rfl⟩:∃y,y=t:=⟨t,rfl⟩;obtain⟨au,ax,rfl,Z,D⟩:=bY t0 ht;obtain⟨ay,aZ,rfl,-,-,-⟩:=D.open;obtain⟨I,J⟩:=x;obtain⟨rfl,ae,K,O⟩:=bK I J T;exact sliceO_any (g0,g1) t0 (I,J) w V X K O U h
end Go.Proofs.YtleafadpfeibfaaGreat
namespace Go.Proofs.YtleafadpfeibfaaGreat.fnExactSliceOf
open Go.ChangeShapes Go.WideShapes Go.RowKit
theorem JA:(laidOutB Tryz.pinned.checked.prog)=true:=by kernel_rfl
theorem FQ:((Rows.fnExactSliceOfRow.inPlace==Tryz.pinned.checked.prog.inPlace 4))=true:=by kernel_rfl
end Go.Proofs.YtleafadpfeibfaaGreat.fnExactSliceOf
namespace Go.Proofs.YtleafadpfeibfaaGreat.fnExactSliceOf
open Go.ChangeShapes Go.WideShapes Go.RowKit
theorem J3:((Rows.fnExactSliceOfRow.unfollowed==Tryz.pinned.checked.prog.unfollowed 4))=true:=by kernel_rfl
theorem Kc:((Rows.fnExactSliceOfRow.recurses==Tryz.pinned.checked.prog.recurses 4))=true:=by kernel_rfl
end Go.Proofs.YtleafadpfeibfaaGreat.fnExactSliceOf
namespace Go.Proofs.YtleafadpfeibfaaGreat.fnExactSliceOf
open Go.ChangeShapes Go.WideShapes Go.RowKit
theorem Ko:((Rows.fnExactSliceOfRow.named==Tryz.pinned.checked.prog.varsNamed 4))=true:=by kernel_rfl
theorem JG:(mapsRowed Tryz.pinned.checked.prog)=true:=by kernel_rfl
theorem JK:(Tryz.f4.params.all (Tryz.pinned.checked.prog.readableRec ·))=true:=by kernel_rfl
theorem IW:(namedTie Tryz.pinned.checked.prog Rows.fnExactSliceOfRow.named Rows.fnExactSliceOfSpec.vars)=true:=by kernel_rfl
theorem IA:((Tryz.pinned.checked.prog.stops==[]))=true:=by kernel_rfl
theorem IZ:((Tryz.pinned.checked.prog.stopKnobs==[]))=true:=by kernel_rfl
end Go.Proofs.YtleafadpfeibfaaGreat.fnExactSliceOf
