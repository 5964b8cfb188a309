/- Contracts and laws towards ReadsOf, part 9 of 54. No condition. -/
import Derived.Test.YtdhighcpmcdmmaaGreatFx02
import Derived.Laws.OwnMore
set_option maxHeartbeats 32000000
set_option maxRecDepth 10000
set_option linter.unusedVariables false
set_option linter.unusedSimpArgs false
namespace Go.Proofs.YtdhighcpmcdmmaaGreat
open Go.RowKit
open _root_.List (getElem_mem getElem_set_ne length_set)
open _root_.Nat (mul_comm)
open _root_.Array (getElem?_modify)
variable{w w' w0:World}{b base i:Nat}{t e:TypeId}{v:Value}{xs:List Int}{fp:List Nat}{fps:List (List Nat)}
def uz(w:World)(b:Nat)(t:TypeId)(fl:List Bool):Prop:=w.heap[b]?=some (.cells (fl.map Value.bool).toArray t)
theorem uz.lt{fl:List Bool}(h:uz w b t fl):b<w.heap.size:=by
 unfold uz at h;exact(Array.getElem?_eq_some_iff.1 h).1
theorem uz.cell{fl:List Bool}(h:uz w b t fl){k:Nat}(q:k<fl.length):w.cell? ⟨b,k,none⟩=some (.bool fl[k]):=by
 rw[cell_of_row w b k _ t (0,0) h];simp[q]
theorem uz.frozen{fl:List Bool}(h:uz w b t fl)(k:Nat):w.frozen? ⟨b,k,none⟩=false:=jB h k
theorem uz.keep{fl:List Bool}(h:uz w b t fl)(e:w'.heap[b]?=w.heap[b]?):uz w' b t fl:=e.trans h
theorem uz.gr{fl:List Bool}(h:uz w b t fl)(q:Gr w w'):uz w' b t fl:=h.keep (q.below.block b h.lt)
theorem uz.wr{fl:List Bool}(h:uz w b t fl)(hw:Wr fp w w')(q:b∉fp):uz w' b t fl:=h.keep (hw.block b h.lt q)
theorem uz.set{fl:List Bool}(h:uz w b t fl)(k:Nat)(y:Bool):uz (w.setCell ⟨b,k,none⟩ (.bool y)) b t (fl.set k y):=by
 unfold uz at*;unfold World.setCell;simp only[getElem?_modify,if_pos];rw[h];simp[List.map_set]
theorem uz.made(w:World)(n:Nat)(t:TypeId):uz (w.alloc (.cells (madeCells #[.bool false] n) t)) w.heap.size t (List.replicate n false):=by
 unfold uz;rw[heap_alloc_new]
 congr 2
 apply Array.toList_inj.1;rw[toList_madeCells_one];simp
theorem uz.slR{fl:List Bool}(h:uz w b t fl)(q:fl.length≤bn){cap:Nat}(hc:fl.length≤cap):∃fp,SlR fp w (.slice (some ⟨b,0,none⟩) fl.length cap) fl∧(fp=[]∨fp=[b]):=
 SlR.flat h rfl (fun i s=>⟨.bool fl[i],by simp[s],rfl,rfl⟩) hc q
def Que(base:Nat)(e:TypeId)(w:World)(v:Value)(xs:List Int):Prop:=
 ∃g off cap cur,v=.slice (some ⟨g,off,none⟩) xs.length cap∧base≤g∧w.heap[g]?=some (.cells cur e)∧xs.length≤cap∧cap≤maxLen∧off+cap≤cur.size∧
  ∀j u,(xs.map (Value.int .i64))[j]?=some u→cur[off+j]?=some u
theorem Que.gr(h:Que base e w v xs)(s:Gr w w'):Que base e w' v xs:=by
 obtain⟨g,off,cap,cur,B,D,q,E⟩:=h;exact⟨g,off,cap,cur,B,D,by rw[s.below.block g (Array.getElem?_eq_some_iff.1 q).1];exact q,E⟩
theorem Que.blk(h:Que base e w v xs):∃g,v.ownBlock=some g∧base≤g∧g<w.heap.size:=by
 obtain⟨g,off,cap,cur,rfl,q,s,B⟩:=h;exact⟨g,rfl,q,(Array.getElem?_eq_some_iff.1 s).1⟩
theorem Que.wr(h:Que base e w v xs)(hw:Wr fp w w')(s:∀b,v.ownBlock=some b→b∉fp):Que base e w' v xs:=by
 obtain⟨g,off,cap,cur,rfl,B,q,D⟩:=h;exact⟨g,off,cap,cur,rfl,B,by rw[hw.block g (Array.getElem?_eq_some_iff.1 q).1 (s g rfl)];exact q,D⟩
theorem Que.form(h:Que base e w v xs):
  ∃g off cap,v=.slice (some ⟨g,off,none⟩) xs.length cap∧base≤g∧g<w.heap.size∧xs.length≤cap∧cap≤maxLen∧∀j (q:j<xs.length),w.cell? ⟨g,off+j,none⟩=some (.int .i64 xs[j]):=by
 obtain⟨g,off,cap,cur,rfl,B,s,D,E,I,H⟩:=h;refine⟨g,off,cap,rfl,B,(Array.getElem?_eq_some_iff.1 s).1,D,E,fun j q=>?_⟩;rw[cell_of_row w g (off+j) cur e (0,0) s];exact H j _ (by simp[q])
theorem Que.tail{g off n cap:Nat}{x:Int}(h:Que base e w (.slice (some ⟨g,off,none⟩) n cap) (x::xs)):
  Que base e w (.slice (some ⟨g,off+1,none⟩) xs.length (cap - 1)) xs∧(cap=1→Que base e w (.slice (some ⟨g,off,none⟩) 0 0) xs):=by
 obtain⟨U,D,E,cur,H,s,B,I,X,Y,J⟩:=h;injection H with q Z K;injection q with q;injection q with q O _;subst q O K;simp only[List.length_cons] at I;refine⟨⟨g,off+1,cap - 1,cur,rfl,s,B,by omega,by omega,by omega,fun j u T=>?_⟩,fun hc=>?_⟩
 ·rw[show off+1+j=off+(j+1) by omega]
  exact J (j+1) u (by simpa using T)
 ·have:xs=[]:=List.eq_nil_of_length_eq_zero (by omega)
  subst this;exact⟨g,off,0,cur,rfl,s,B,by simp,by omega,by omega,by simp⟩
section
variable{P:Program}
theorem OU(K:Gr w0 w)(hbase:w0.heap.size≤base)(O:base≤w.heap.size)(t ty e:TypeId)(i:TypeInfo)(I:P.underlying t=some (.slice e))(T:P.info? e=some i)(hz:i.zero=some (.int .i64 0))(hsize:i.size=1)(U:i.bytes=8)
  (hq:Que base e w v xs) {a:Addr} {c:Nat} {y:Int} (hy:w.cell? a=some (.int .i64 y)) (hlen:xs.length≤1048576):
  ∃D w',(Builtin.append_ #[t,t] ty #[v,.slice (some a) 1 c]).run P w=.ok D w'∧Que base e w' D (xs++[y])∧(∃g,v.ownBlock=some g∧Wr [g] w w')∧Gr w0 w'∧(D.ownBlock=v.ownBlock∨D.ownBlock=some w.heap.size):=by
 obtain⟨g,off,cap,cur,rfl,X,E,h3,h4,h5,Y⟩:=hq
 have Z:Src P i.size t (.slice (some a) 1 c) 1 [.int .i64 y] w:=Src.ofSlice w I a 1 c _ (by simp[hsize]) (fun j u h=>by
  cases j with
  |zero=>simp at h;subst h;simpa[Addr.add] using hy
  |succ j=>simp at h) (by simp[Value.oneCell'])
 by_cases q:xs.length+1≤cap
 ·have H:=run_append_room_src (P:=P) w t t ty e i I T g off xs.length cap _ 1 _ Z q (fun j h=>by
   obtain rfl:j=0:=by simpa using h
   rw[hsize,cell_of_row w g _ cur e (0,0) E,Array.getElem?_eq_getElem (by omega)];rfl) (fun j _=>jB E _)
  have J:w.setCells g (off+xs.length*i.size) [.int .i64 y]=w.setCell ⟨g,off+xs.length,none⟩ (.int .i64 y):=by
   rw[hsize,Nat.mul_one];rfl
  rw[J] at H;refine⟨_,_,H,⟨g,off,cap,cur.setIfInBounds (off+xs.length) (.int .i64 y),by simp,X,?_,by simpa using q,h4,by simpa using h5,fun j u h=>?_⟩,⟨g,rfl,(Wr.refl _ _).setCell (by simp) _⟩,K.setCell (Nat.le_trans hbase X) _,.inl rfl⟩
  ·unfold World.setCell
   simp only[getElem?_modify,if_pos];rw[E];simp
  ·rw[Array.getElem?_setIfInBounds]
   by_cases s:j<xs.length
   ·rw[if_neg (by omega)]
    exact Y j u (by rw[List.map_append,List.getElem?_append_left (by simpa using s)] at h;exact h)
   ·have ae:j=xs.length:=by
     have:=(List.getElem?_eq_some_iff.1 h).1;simp at this;omega
    subst ae;rw[if_pos rfl,if_pos (by omega)];simpa using h
 ·have B:(Builtin.firstCells i.size xs.length (.slice (some ⟨g,off,none⟩) xs.length cap)).run P w.drew=.ok (xs.map (Value.int .i64)).toArray w.drew:=
   run_firstCells_some w.drew i.size xs.length ⟨g,off,none⟩ xs.length cap (xs.map (Value.int .i64)) (by simp[hsize]) (fun j u h=>by
    have e1:(⟨g,off,none⟩:Addr).add j=⟨g,off+j,none⟩:=by
     unfold Addr.add
     split
     ·rename_i e;subst e;rfl
     ·rfl
    rw[e1]
    show w.cell? ⟨g,off+j,none⟩=some u
    rw[cell_of_row w g _ cur e (0,0) E];exact Y j u h)
  have ah:(xs.length+1)*8≤140737488355328:=by omega
  have H:=run_append_grow_src (P:=P) w t t ty e i (.int .i64 0) I T hz (some ⟨g,off,none⟩) xs.length cap (xs.map (Value.int .i64)) B _ 1 _ Z (by omega) (by omega) (by rw[U];exact growslice_fits (by omega) ah);have ai:=grownCap_ge w (xs.length+1) cap e;have aj:=grownCap_le_maxLen w (xs.length+1) cap e (by unfold maxLen;omega);refine⟨_,_,H,⟨w.heap.size,0,grownCap w (xs.length+1) cap e,_,by simp,O,heap_alloc_new w.drew _,by simpa using ai,aj,?_,fun j u h=>?_⟩,⟨g,rfl,((Gr.refl w).drew.alloc _).eF _⟩,(K.drew).alloc _,.inr rfl⟩
  ·simp[Builtin.zeroCells,Value.cells]
   omega
  ·have s:j<(xs++[y]).length:=by simpa using(List.getElem?_eq_some_iff.1 h).1
   rw[Nat.zero_add,Array.getElem?_append_left (by simpa using s)];simpa using h
theorem O4(I:Gr w0 w)(hbase:w0.heap.size≤base)(B:base≤w.heap.size){ops:Array Oper}{rest:List Oper}{o:Oper}{a:Act}{Q:Exit→Act→World→Prop}(D:o.guard=none)(s x:Operand)(t:TypeId)
  (J:o.op=.call {callee:=.builtin .append,args:=#[s,x],argTypes:=#[t,t]})
  (e:TypeId) (i:TypeInfo) (O:P.underlying t=some (.slice e)) (T:P.info? e=some i) (U:i.zero=some (.int .i64 0)) (hsize:i.size=1) (E:i.bytes=8)
  (v:Value) (xs:List Int) (X:a.eval s=v) (Y:Que base e w v xs) (H:Addr) (c:Nat) (y:Int) (Z:a.eval x=.slice (some H) 1 c) (hy:w.cell? H=some (.int .i64 y)) (hlen:xs.length≤1048576)
  (h:∀q w',Que base e w' q (xs++[y])→(∃g,v.ownBlock=some g∧Wr [g] w w')→Gr w0 w'→(q.ownBlock=v.ownBlock∨q.ownBlock=some w.heap.size)→wpList P ops Q rest (a.put o.dst q) w'):wpList P ops Q (o::rest) a w:=by
 refine wpList_plain D fun K hK=>?_
 obtain⟨q,w',hr,h2,h3,h4,h5⟩:=OU (P:=P) I hbase B t o.type e i O T U hsize E Y hy hlen (c:=c);unfold Oper.wp execOp;simp only[J,resolve,invoke,builtin,Sem.run_bind,Sem.run_pure,Result.andThen_ok,List.map_toArray,List.map_cons,List.map_nil,X,Z,hr];exact hK _ _ (h q w' h2 h3 h4 h5)
end
def fZ(_base:Nat)(_e:TypeId):Type:=List Int
def fZ.o{base:Nat}{e:TypeId}(x:fZ base e):List Int:=x
def fZ.mk(base:Nat)(e:TypeId)(x:List Int):fZ base e:=x
instance (base:Nat) (e:TypeId):Rd (fZ base e) where
 n:=1
 pos:=by omega
 rd fp w cs x:=∃v,cs=[v]∧w.ownsRow base e 1 v x.o.length (x.o.map (Value.int .i64))∧(∀y∈x.o,(Lit.int .i64 y).wf=true)∧fp=v.ownBlock.toList
 len h:=by obtain⟨v,rfl,_⟩:=h;rfl
 lt h:=by
  obtain⟨v,rfl,h,_,rfl⟩:=h;intro b hb
  exact(h.lt b (by simpa using hb)).2
 mono hw h:=by
  obtain⟨v,rfl,h,h2,rfl⟩:=h;refine⟨v,rfl,⟨h.1,?_⟩,h2,rfl⟩;rcases h.2 with hn|⟨g,cap,cur,rfl,hb,hgg,rest⟩
  ·exact .inl hn
  ·exact .inr ⟨g,cap,cur,rfl,hb,by rw[hw g (by simp[Value.ownBlock])];exact hgg,rest⟩
 one h u hu:=by
  obtain⟨v,rfl,h,_,rfl⟩:=h;simp at hu;subst hu;rcases h.2 with⟨rfl,_⟩|⟨g,cap,cur,rfl,_⟩<;>rfl
theorem fZ.read{cs:List Value}{x:fZ base e}(h:Rd.rd fp w cs x)(s:x.o.length≤bn):∃fq,Rd.rd (α:=List Int) fq w cs x.o∧fq.Sublist fp:=by
 obtain⟨v,rfl,h,O,rfl⟩:=h;obtain⟨fq,B,hb,ai,_⟩:=Gv rfl (Value.int .i64) h (fun y T=>rO (O y T) w) s;rcases h.2 with⟨rfl,U⟩|⟨g,cap,cur,rfl,_⟩
 ·have:x.o=[]:=List.eq_nil_of_length_eq_zero U
  rw[this] at B ⊢;exact⟨[],⟨_,rfl,SlR.nil w⟩,by simp⟩
 ·obtain⟨_,_,X,_,_,⟨D,rfl⟩|⟨b,off,fps,E,Y,rfl,H⟩⟩:=B
  ·refine⟨[],⟨_,rfl,_,cap,rfl,?_,s,.inl ⟨D,rfl⟩⟩,by simp⟩
   rw[D];simp
  ·injection X with q e2 e3
   rw[Y] at q;injection q with q;injection q with q Z _;subst q Z
   have I:fps.flatten=[]:=by
    obtain⟨aj,au,hx⟩:=H;rw[List.flatten_eq_nil_iff];intro f hf
    obtain⟨i,hi,rfl⟩:=List.mem_iff_getElem.1 hf;obtain⟨_,_,J⟩:=hx i (by omega) hi;exact J.1
   refine⟨_,⟨_,rfl,_,cap,rfl,?_,s,.inr ⟨g,0,fps,E,rfl,rfl,H⟩⟩,?_⟩
   ·rcases h.2 with⟨h9,_⟩|⟨g',ae,ah,K,_,_,ax,_⟩
    ·cases h9
    ·injection K with _ _ ay
     omega
   ·rw[I];simp[Value.ownBlock]
theorem bE.upd{α:Type}[Rd α]{xs:List α}(h:bE w0 e w v fps xs)(hi:i<xs.length):
  ∃g cap cs fq,v=.slice (some ⟨g,0,none⟩) xs.length cap∧w0.heap.size≤g∧g<w.heap.size∧xs.length≤cap∧fps[i]?=some fq∧(∀j u,cs[j]?=some u→w.cell? ⟨g,i*Rd.n α+j,none⟩=some u)∧Rd.rd fq w cs xs[i]∧
   (∀o,w.frozen? ⟨g,o,none⟩=false)∧
   ∀w1 j u B y,Wr fq w w1→g∉fq→(∀k (hk:k<fps.length),k≠i→∀c∈fps[k],c∉fq)→j<Rd.n α→g∉B→Rd.rd B (w1.setCell ⟨g,i*Rd.n α+j,none⟩ u) (cs.set j u) y→bE w0 e (w1.setCell ⟨g,i*Rd.n α+j,none⟩ u) v (fps.set i B) (xs.set i y):=by
 have aN:=h.fl;obtain⟨⟨q,ho,O⟩,ha⟩:=h;have T:=O.cl;have hp:=Rd.pos (α:=α);have aS:(i+1)*Rd.n α≤xs.length*Rd.n α:=Nat.mul_le_mul_right _ hi;rw[Nat.add_mul] at aS;rcases ho.2 with⟨_,h0⟩|⟨g,cap,cur,rfl,hb,hg,U,aV,aZ,E⟩
 ·omega
 ·have ai:g<w.heap.size:=(Array.getElem?_eq_some_iff.1 hg).1
  have H:i<q.length:=by omega
  have aj:i<fps.length:=by omega
  have I:=O.n;have bK:xs.length*Rd.n α≤cap*Rd.n α:=Nat.mul_le_mul_right _ U;refine⟨g,cap,q[i],fps[i],rfl,hb,ai,U,List.getElem?_eq_getElem aj,fun j u hj=>?_,O.rd i hi H aj,fun o=>jB hg o,fun w1 j u B y hw bg bq hj bB hr=>?_⟩
  ·have bD:j<Rd.n α:=by rw[←I _ (getElem_mem H)];exact(List.getElem?_eq_some_iff.1 hj).1
   rw[cell_of_row w g _ cur e (0,0) hg];have K:(cur.toList.take (xs.length*Rd.n α))[i*Rd.n α+j]?=q.flatten[i*Rd.n α+j]?:=by rw[E]
   rw[List.getElem?_take_of_lt (by omega),flat_get I H bD,hj] at K;simpa using K
  ·have ay:w1.heap[g]?=some (.cells cur e):=by rw[hw.block g ai bg];exact hg
   have ah:(w1.setCell ⟨g,i*Rd.n α+j,none⟩ u).heap[g]?=some (.cells (cur.setIfInBounds (i*Rd.n α+j) u) e):=by
    unfold World.setCell;simp only[getElem?_modify,if_pos];rw[ay];simp
   have J:Els (w1.setCell ⟨g,i*Rd.n α+j,none⟩ u) (q.set i (q[i].set j u)) (fps.set i B) (xs.set i y):=by
    refine⟨by simp[T],by simp[aN],fun k h0 X s=>?_⟩;simp only[length_set] at h0 X s
    by_cases D:k=i
    ·subst D;simpa using hr
    ·rw[getElem_set_ne (fun e=>D e.symm),getElem_set_ne (fun e=>D e.symm),getElem_set_ne (fun e=>D e.symm)]
     refine Rd.mono (fun c hc=>?_) (O.rd k h0 X s)
     have aL:=O.lt c (List.mem_flatten.2 ⟨_,getElem_mem s,hc⟩);have bH:c≠g:=fun e=>ha g rfl (by subst e;exact List.mem_flatten.2 ⟨_,getElem_mem s,hc⟩)
     rw[heap_setCell bH];exact hw.block c aL (bq k s D c hc)
   refine⟨⟨_,⟨?_,.inr ⟨g,cap,_,by simp,hb,ah,by simpa using U,aV,by simpa using aZ,?_⟩⟩,J⟩,fun b' Y hm=>?_⟩
   ·rw[nY J.n];simp[T]
   ·have bL:(q.set i (q[i].set j u)).flatten.length=xs.length*Rd.n α:=by rw[nY J.n];simp[T]
    apply List.ext_getElem?;intro m
    by_cases hm:m<xs.length*Rd.n α
    ·rw[length_set,List.getElem?_take_of_lt hm]
     have hd:m / Rd.n α*Rd.n α+m % Rd.n α=m:=by rw[mul_comm];exact Nat.div_add_mod m _
     have hq:m / Rd.n α<xs.length:=Nat.div_lt_of_lt_mul (by rw[mul_comm];exact hm);have Z:=Nat.mod_lt m hp;have X:=flat_get J.n (i:=m / Rd.n α) (j:=m % Rd.n α) (by simp;omega) Z;rw[hd] at X;have s:=flat_get I (i:=m / Rd.n α) (j:=m % Rd.n α) (by omega) Z;rw[hd] at s;have K:(cur.toList.take (xs.length*Rd.n α))[m]?=q.flatten[m]?:=by rw[E]
     rw[List.getElem?_take_of_lt hm] at K;rw[X,Array.toList_setIfInBounds,List.getElem?_set]
     by_cases ae:m / Rd.n α=i
     ·subst ae
      simp only[List.getElem_set_self];rw[List.getElem?_set]
      by_cases au:j=m % Rd.n α
      ·subst au
       rw[if_pos hd,if_pos rfl,if_pos (by simp;omega),if_pos (by rw[I _ (getElem_mem H)];exact Z)]
      ·rw[if_neg (by omega),if_neg au,←s]
       exact K
     ·rw[getElem_set_ne (fun e=>ae e.symm),←s]
      rw[if_neg]
      ·exact K
      ·intro e
       apply ae;have:(i*Rd.n α+j) / Rd.n α=m / Rd.n α:=congrArg (· / Rd.n α) e;rw[mul_comm i,Nat.mul_add_div hp,Nat.div_eq_of_lt hj] at this;omega
    ·rw[length_set,List.getElem?_eq_none (by simp;omega),List.getElem?_eq_none (by omega)]
   ·injection Y with Y
    subst Y;obtain⟨f,hf,ax⟩:=List.mem_flatten.1 hm;rcases List.mem_or_eq_of_mem_set hf with hf|rfl
    ·exact ha g rfl (List.mem_flatten.2 ⟨f,hf,ax⟩)
    ·exact bB ax
theorem oU(h:fps.flatten.Nodup)(T:i<fps.length){fq:List Nat}(hq:fq.Nodup)(hs:∀c∈fq,c∈fps[i]∨c∉fps.flatten):(fps.set i fq).flatten.Nodup:=by
 have U:=List.pairwise_flatten.1 h;have K:=List.pairwise_iff_getElem.1 U.2;rw[List.Nodup,List.pairwise_flatten]
 have other:∀k (D:k<fps.length),k≠i→∀x∈fps[k],∀y∈fq,x≠y:=by
  intro k D X x q y s e
  subst e;rcases hs x s with E|E
  ·rcases Nat.lt_or_gt_of_ne X with Y|Z
   ·exact K k i D T Y x q x E rfl
   ·exact K i k T D Z x E x q rfl
  ·exact E (List.mem_flatten.2 ⟨_,getElem_mem D,q⟩)
 refine⟨fun f O=>?_,List.pairwise_iff_getElem.2 fun a b ha hb ae x q y s=>?_⟩
 ·rcases List.mem_or_eq_of_mem_set O with O|rfl
  ·exact U.1 f O
  ·exact hq
 ·have H:a<fps.length:=by simpa using ha
  have I:b<fps.length:=by simpa using hb
  by_cases B:a=i
  ·subst B
   rw[List.getElem_set_self] at q;rw[getElem_set_ne (by omega)] at s;exact(other b I (by omega) y s x q).symm
  ·rw[getElem_set_ne (fun e=>B e.symm)] at q
   by_cases J:b=i
   ·subst J
    rw[List.getElem_set_self] at s;exact other a H B x q y s
   ·rw[getElem_set_ne (fun e=>J e.symm)] at s
    exact K a b H I ae x q y s
theorem gq{fq:List Nat}{c:Nat}(h:c∈(fps.set i fq).flatten):c∈fps.flatten∨c∈fq:=by
 obtain⟨f,q,hc⟩:=List.mem_flatten.1 h;rcases List.mem_or_eq_of_mem_set q with q|rfl
 ·exact .inl (List.mem_flatten.2 ⟨f,q,hc⟩)
 ·exact .inr hc
end Go.Proofs.YtdhighcpmcdmmaaGreat
