/- Contracts and laws towards ReadsOf, part 7 of 54. No condition. -/
import Derived.Test.YtleafadpfeibfaaGreatRx04
import Derived.Laws.OwnMore
set_option maxHeartbeats 32000000
set_option maxRecDepth 10000
set_option linter.unusedVariables false
set_option linter.unusedSimpArgs false
namespace Go.Proofs.YtleafadpfeibfaaGreat
open Go.RowKit
open _root_.List (getElem_mem getElem_set_ne length_set)
open _root_.Nat (mul_comm)
variable{w w':World}{b base i:Nat}{t e:TypeId}{v:Value}{xs:List Int}{fp:List Nat}{fps:List (List Nat)}
def kV(w:World)(b:Nat)(t:TypeId)(fl:List Bool):Prop:=w.heap[b]?=some (.cells (fl.map Value.bool).toArray t)
theorem kV.lt{fl:List Bool}(h:kV w b t fl):b<w.heap.size:=by
 unfold kV at h;exact(Array.getElem?_eq_some_iff.1 h).1
theorem kV.cell{fl:List Bool}(h:kV w b t fl){k:Nat}(hk:k<fl.length):w.cell? ⟨b,k,none⟩=some (.bool fl[k]):=by
 rw[cell_of_row w b k _ t (0,0) h];simp[hk]
theorem kV.frozen{fl:List Bool}(h:kV w b t fl)(k:Nat):w.frozen? ⟨b,k,none⟩=false:=jB h k
theorem kV.keep{fl:List Bool}(h:kV w b t fl)(e:w'.heap[b]?=w.heap[b]?):kV w' b t fl:=e.trans h
theorem kV.gr{fl:List Bool}(h:kV w b t fl)(hg:Gr w w'):kV w' b t fl:=h.keep (hg.below.block b h.lt)
theorem kV.wr{fl:List Bool}(h:kV w b t fl)(hw:Wr fp w w')(hb:b∉fp):kV w' b t fl:=h.keep (hw.block b h.lt hb)
theorem kV.set{fl:List Bool}(h:kV w b t fl)(k:Nat)(y:Bool):kV (w.setCell ⟨b,k,none⟩ (.bool y)) b t (fl.set k y):=by
 unfold kV at*;unfold World.setCell;simp only[Array.getElem?_modify,if_pos];rw[h];simp[List.map_set]
theorem kV.made(w:World)(n:Nat)(t:TypeId):kV (w.alloc (.cells (madeCells #[.bool false] n) t)) w.heap.size t (List.replicate n false):=by
 unfold kV;rw[heap_alloc_new]
 congr 2
 apply Array.toList_inj.1;rw[toList_madeCells_one];simp
theorem kV.slR{fl:List Bool}(h:kV w b t fl)(hn:fl.length≤bn){cap:Nat}(hc:fl.length≤cap):∃fp,SlR fp w (.slice (some ⟨b,0,none⟩) fl.length cap) fl∧(fp=[]∨fp=[b]):=
 SlR.flat h rfl (fun i hi=>⟨.bool fl[i],by simp[hi],rfl,rfl⟩) hc hn
def Que(base:Nat)(e:TypeId)(w:World)(v:Value)(xs:List Int):Prop:=
 ∃g off cap cur,v=.slice (some ⟨g,off,none⟩) xs.length cap∧base≤g∧w.heap[g]?=some (.cells cur e)∧xs.length≤cap∧cap≤maxLen∧off+cap≤cur.size∧
  ∀j u,(xs.map (Value.int .i64))[j]?=some u→cur[off+j]?=some u
theorem Que.gr(h:Que base e w v xs)(hg:Gr w w'):Que base e w' v xs:=by
 obtain⟨g,off,cap,cur,hv,h1,q,B⟩:=h;exact⟨g,off,cap,cur,hv,h1,by rw[hg.below.block g (Array.getElem?_eq_some_iff.1 q).1];exact q,B⟩
theorem Que.blk(h:Que base e w v xs):∃g,v.ownBlock=some g∧base≤g∧g<w.heap.size:=by
 obtain⟨g,off,cap,cur,rfl,h1,q,B⟩:=h;exact⟨g,rfl,h1,(Array.getElem?_eq_some_iff.1 q).1⟩
theorem Que.wr(h:Que base e w v xs)(hw:Wr fp w w')(hn:∀b,v.ownBlock=some b→b∉fp):Que base e w' v xs:=by
 obtain⟨g,off,cap,cur,rfl,h1,q,B⟩:=h;exact⟨g,off,cap,cur,rfl,h1,by rw[hw.block g (Array.getElem?_eq_some_iff.1 q).1 (hn g rfl)];exact q,B⟩
theorem Que.form(h:Que base e w v xs):
  ∃g off cap,v=.slice (some ⟨g,off,none⟩) xs.length cap∧base≤g∧g<w.heap.size∧xs.length≤cap∧cap≤maxLen∧∀j (q:j<xs.length),w.cell? ⟨g,off+j,none⟩=some (.int .i64 xs[j]):=by
 obtain⟨g,off,cap,cur,rfl,h1,B,D,I,K,J⟩:=h;refine⟨g,off,cap,rfl,h1,(Array.getElem?_eq_some_iff.1 B).1,D,I,fun j q=>?_⟩;rw[cell_of_row w g (off+j) cur e (0,0) B];exact J j _ (by simp[q])
section
variable{P:Program}
end
def fZ(_base:Nat)(_e:TypeId):Type:=List Int
def fZ.o{base:Nat}{e:TypeId}(x:fZ base e):List Int:=x
def fZ.mk(base:Nat)(e:TypeId)(x:List Int):fZ base e:=x
instance (base:Nat) (e:TypeId):Rd (fZ base e) where
 n:=1
 pos:=by omega
 rd fp w cs x:=∃v,cs=[v]∧w.ownsRow base e 1 v x.o.length (x.o.map (Value.int .i64))∧(∀y∈x.o,(Lit.int .i64 y).wf=true)∧fp=v.ownBlock.toList
 len h:=by obtain⟨v,rfl,_⟩:=h;rfl
 lt h:=by
  obtain⟨v,rfl,h,_,rfl⟩:=h;intro b hb
  exact(h.lt b (by simpa using hb)).2
 mono hw h:=by
  obtain⟨v,rfl,h,h2,rfl⟩:=h;refine⟨v,rfl,⟨h.1,?_⟩,h2,rfl⟩;rcases h.2 with hn|⟨g,cap,cur,rfl,hb,hgg,rest⟩
  ·exact .inl hn
  ·exact .inr ⟨g,cap,cur,rfl,hb,by rw[hw g (by simp[Value.ownBlock])];exact hgg,rest⟩
 one h u hu:=by
  obtain⟨v,rfl,h,_,rfl⟩:=h;simp at hu;subst hu;rcases h.2 with⟨rfl,_⟩|⟨g,cap,cur,rfl,_⟩<;>rfl
theorem fZ.read{cs:List Value}{x:fZ base e}(h:Rd.rd fp w cs x)(B:x.o.length≤bn):∃fq,Rd.rd (α:=List Int) fq w cs x.o∧fq.Sublist fp:=by
 obtain⟨v,rfl,h,T,rfl⟩:=h;obtain⟨fq,hs,hb,ai,_⟩:=Gv rfl (Value.int .i64) h (fun y U=>rO (T y U) w) B;rcases h.2 with⟨rfl,V⟩|⟨g,cap,cur,rfl,_⟩
 ·have:x.o=[]:=List.eq_nil_of_length_eq_zero V
  rw[this] at hs ⊢;exact⟨[],⟨_,rfl,SlR.nil w⟩,by simp⟩
 ·obtain⟨_,_,hv,_,_,⟨D,rfl⟩|⟨b,off,fps,I,X,rfl,hr⟩⟩:=hs
  ·refine⟨[],⟨_,rfl,_,cap,rfl,?_,B,.inl ⟨D,rfl⟩⟩,by simp⟩
   rw[D];simp
  ·injection hv with q e2 e3
   rw[X] at q;injection q with q;injection q with q Y _;subst q Y
   have J:fps.flatten=[]:=by
    obtain⟨aj,ak,Z⟩:=hr;rw[List.flatten_eq_nil_iff];intro f hf
    obtain⟨i,hi,rfl⟩:=List.mem_iff_getElem.1 hf;obtain⟨_,_,K⟩:=Z i (by omega) hi;exact K.1
   refine⟨_,⟨_,rfl,_,cap,rfl,?_,B,.inr ⟨g,0,fps,I,rfl,rfl,hr⟩⟩,?_⟩
   ·rcases h.2 with⟨h9,_⟩|⟨g',ae,ah,O,_,_,au,_⟩
    ·cases h9
    ·injection O with _ _ ax
     omega
   ·rw[J];simp[Value.ownBlock]
theorem bE.upd{α:Type}[Rd α]{w0:World}{xs:List α}(h:bE w0 e w v fps xs)(hi:i<xs.length):
  ∃g cap cs fq,v=.slice (some ⟨g,0,none⟩) xs.length cap∧w0.heap.size≤g∧g<w.heap.size∧xs.length≤cap∧fps[i]?=some fq∧(∀j u,cs[j]?=some u→w.cell? ⟨g,i*Rd.n α+j,none⟩=some u)∧Rd.rd fq w cs xs[i]∧
   (∀o,w.frozen? ⟨g,o,none⟩=false)∧
   ∀w1 j u D y,Wr fq w w1→g∉fq→(∀k (hk:k<fps.length),k≠i→∀c∈fps[k],c∉fq)→j<Rd.n α→g∉D→Rd.rd D (w1.setCell ⟨g,i*Rd.n α+j,none⟩ u) (cs.set j u) y→bE w0 e (w1.setCell ⟨g,i*Rd.n α+j,none⟩ u) v (fps.set i D) (xs.set i y):=by
 have bg:=h.fl;obtain⟨⟨q,ho,V⟩,ha⟩:=h;have X:=V.cl;have hp:=Rd.pos (α:=α);have bq:(i+1)*Rd.n α≤xs.length*Rd.n α:=Nat.mul_le_mul_right _ hi;rw[Nat.add_mul] at bq;rcases ho.2 with⟨_,h0⟩|⟨g,cap,cur,rfl,hb,hg,Y,bB,bH,J⟩
 ·omega
 ·have aj:g<w.heap.size:=(Array.getElem?_eq_some_iff.1 hg).1
  have K:i<q.length:=by omega
  have ak:i<fps.length:=by omega
  have O:=V.n;have cO:xs.length*Rd.n α≤cap*Rd.n α:=Nat.mul_le_mul_right _ Y;refine⟨g,cap,q[i],fps[i],rfl,hb,aj,Y,List.getElem?_eq_getElem ak,fun j u hj=>?_,V.rd i hi K ak,fun o=>jB hg o,fun w1 j u D y hw bL bR hj bX hr=>?_⟩
  ·have cB:j<Rd.n α:=by rw[←O _ (getElem_mem K)];exact(List.getElem?_eq_some_iff.1 hj).1
   rw[cell_of_row w g _ cur e (0,0) hg];have U:(cur.toList.take (xs.length*Rd.n α))[i*Rd.n α+j]?=q.flatten[i*Rd.n α+j]?:=by rw[J]
   rw[List.getElem?_take_of_lt (by omega),flat_get O K cB,hj] at U;simpa using U
  ·have ay:w1.heap[g]?=some (.cells cur e):=by rw[hw.block g aj bL];exact hg
   have ai:(w1.setCell ⟨g,i*Rd.n α+j,none⟩ u).heap[g]?=some (.cells (cur.setIfInBounds (i*Rd.n α+j) u) e):=by
    unfold World.setCell;simp only[Array.getElem?_modify,if_pos];rw[ay];simp
   have T:Els (w1.setCell ⟨g,i*Rd.n α+j,none⟩ u) (q.set i (q[i].set j u)) (fps.set i D) (xs.set i y):=by
    refine⟨by simp[X],by simp[bg],fun k h0 h1 B=>?_⟩;simp only[length_set] at h0 h1 B
    by_cases I:k=i
    ·subst I;simpa using hr
    ·rw[getElem_set_ne (fun e=>I e.symm),getElem_set_ne (fun e=>I e.symm),getElem_set_ne (fun e=>I e.symm)]
     refine Rd.mono (fun c hc=>?_) (V.rd k h0 h1 B)
     have aZ:=V.lt c (List.mem_flatten.2 ⟨_,getElem_mem B,hc⟩);have cK:c≠g:=fun e=>ha g rfl (by subst e;exact List.mem_flatten.2 ⟨_,getElem_mem B,hc⟩)
     rw[heap_setCell cK];exact hw.block c aZ (bR k B I c hc)
   refine⟨⟨_,⟨?_,.inr ⟨g,cap,_,by simp,hb,ai,by simpa using Y,bB,by simpa using bH,?_⟩⟩,T⟩,fun b' Z hm=>?_⟩
   ·rw[nY T.n];simp[X]
   ·have dB:(q.set i (q[i].set j u)).flatten.length=xs.length*Rd.n α:=by rw[nY T.n];simp[X]
    apply List.ext_getElem?;intro m
    by_cases hm:m<xs.length*Rd.n α
    ·rw[length_set,List.getElem?_take_of_lt hm]
     have hd:m / Rd.n α*Rd.n α+m % Rd.n α=m:=by rw[mul_comm];exact Nat.div_add_mod m _
     have hq:m / Rd.n α<xs.length:=Nat.div_lt_of_lt_mul (by rw[mul_comm];exact hm);have ae:=Nat.mod_lt m hp;have h1:=flat_get T.n (i:=m / Rd.n α) (j:=m % Rd.n α) (by simp;omega) ae;rw[hd] at h1;have B:=flat_get O (i:=m / Rd.n α) (j:=m % Rd.n α) (by omega) ae;rw[hd] at B;have U:(cur.toList.take (xs.length*Rd.n α))[m]?=q.flatten[m]?:=by rw[J]
     rw[List.getElem?_take_of_lt hm] at U;rw[h1,Array.toList_setIfInBounds,List.getElem?_set]
     by_cases ah:m / Rd.n α=i
     ·subst ah
      simp only[List.getElem_set_self];rw[List.getElem?_set]
      by_cases au:j=m % Rd.n α
      ·subst au
       rw[if_pos hd,if_pos rfl,if_pos (by simp;omega),if_pos (by rw[O _ (getElem_mem K)];exact ae)]
      ·rw[if_neg (by omega),if_neg au,←B]
       exact U
     ·rw[getElem_set_ne (fun e=>ah e.symm),←B]
      rw[if_neg]
      ·exact U
      ·intro e
       apply ah;have:(i*Rd.n α+j) / Rd.n α=m / Rd.n α:=congrArg (· / Rd.n α) e;rw[mul_comm i,Nat.mul_add_div hp,Nat.div_eq_of_lt hj] at this;omega
    ·rw[length_set,List.getElem?_eq_none (by simp;omega),List.getElem?_eq_none (by omega)]
   ·injection Z with Z
    subst Z;obtain⟨f,hf,ax⟩:=List.mem_flatten.1 hm;rcases List.mem_or_eq_of_mem_set hf with hf|rfl
    ·exact ha g rfl (List.mem_flatten.2 ⟨f,hf,ax⟩)
    ·exact bX ax
theorem oU(h:fps.flatten.Nodup)(hi:i<fps.length){fq:List Nat}(hq:fq.Nodup)(hs:∀c∈fq,c∈fps[i]∨c∉fps.flatten):(fps.set i fq).flatten.Nodup:=by
 have h1:=List.pairwise_flatten.1 h;have T:=List.pairwise_iff_getElem.1 h1.2;rw[List.Nodup,List.pairwise_flatten]
 have other:∀k (hk:k<fps.length),k≠i→∀x∈fps[k],∀y∈fq,x≠y:=by
  intro k hk V x q y B e
  subst e;rcases hs x B with I|I
  ·rcases Nat.lt_or_gt_of_ne V with X|Y
   ·exact T k i hk hi X x q x I rfl
   ·exact T i k hi hk Y x I x q rfl
  ·exact I (List.mem_flatten.2 ⟨_,getElem_mem hk,q⟩)
 refine⟨fun f U=>?_,List.pairwise_iff_getElem.2 fun a b ha hb Z x q y B=>?_⟩
 ·rcases List.mem_or_eq_of_mem_set U with U|rfl
  ·exact h1.1 f U
  ·exact hq
 ·have J:a<fps.length:=by simpa using ha
  have K:b<fps.length:=by simpa using hb
  by_cases D:a=i
  ·subst D
   rw[List.getElem_set_self] at q;rw[getElem_set_ne (by omega)] at B;exact(other b K (by omega) y B x q).symm
  ·rw[getElem_set_ne (fun e=>D e.symm)] at q
   by_cases O:b=i
   ·subst O
    rw[List.getElem_set_self] at B;exact other a J D x q y B
   ·rw[getElem_set_ne (fun e=>O e.symm)] at B
    exact T a b J K Z x q y B
theorem gq{fq:List Nat}{c:Nat}(h:c∈(fps.set i fq).flatten):c∈fps.flatten∨c∈fq:=by
 obtain⟨f,q,hc⟩:=List.mem_flatten.1 h;rcases List.mem_or_eq_of_mem_set q with q|rfl
 ·exact .inl (List.mem_flatten.2 ⟨f,q,hc⟩)
 ·exact .inr hc
end Go.Proofs.YtleafadpfeibfaaGreat
