/- Contracts and laws towards ReadsOf, part 33 of 54. No condition. -/
import Derived.Test.YtleafadpfeibfaaGreatRx31
set_option maxHeartbeats 32000000
set_option maxRecDepth 10000
set_option linter.unusedVariables false
set_option linter.unusedSimpArgs false
namespace Go.Proofs.YtleafadpfeibfaaGreat
open Go.RowKit
open _root_.List (foldl_cons getElem_mem length_set)
open _root_.Nat (add_zero le_refl le_trans mul_one)
def encI(x:av):List Value:=[.int .i64 x.1,.string x.2]
def Io(x:av):Prop:=(Lit.int .i64 x.1).wf=true∧x.2.size≤maxLen
theorem Iz{fp:List Nat}{w:World}{cs:List Value}{x:av}(h:Rd.rd fp w cs x):fp=[]∧cs=encI x∧Io x:=by
 obtain⟨q0,q1⟩:=x;obtain⟨h1,q,B,D⟩:=bK (cs:=cs.toArray) q0 q1 (by simpa using h);exact⟨by simpa using q,by have:=congrArg Array.toList h1;simpa[encI] using this,B,D⟩
theorem JR{x:av}(h:Io x)(w:World):Rd.rd [] w (encI x) x:=by
 obtain⟨q0,q1⟩:=x;simpa[encI] using bZ (w:=w) q0 q1 h.1 h.2
def gm(_base:Nat)(_e:TypeId):Type:=List av
def gm.o{base:Nat}{e:TypeId}(x:gm base e):List av:=x
def gm.mk(base:Nat)(e:TypeId)(x:List av):gm base e:=x
instance (base:Nat) (e:TypeId):Rd (gm base e) where
 n:=1
 pos:=by omega
 rd fp w cs x:=∃v,cs=[v]∧w.ownsRow base e 2 v x.o.length (x.o.map encI).flatten∧(∀y∈x.o,Io y)∧fp=v.ownBlock.toList
 len h:=by obtain⟨v,rfl,_⟩:=h;rfl
 lt h:=by
  obtain⟨v,rfl,h,_,rfl⟩:=h;intro b hb
  exact(h.lt b (by simpa using hb)).2
 mono hw h:=by
  obtain⟨v,rfl,h,h2,rfl⟩:=h;refine⟨v,rfl,⟨h.1,?_⟩,h2,rfl⟩;rcases h.2 with hn|⟨g,cap,cur,rfl,hb,hgg,rest⟩
  ·exact .inl hn
  ·exact .inr ⟨g,cap,cur,rfl,hb,by rw[hw g (by simp[Value.ownBlock])];exact hgg,rest⟩
 one h u hu:=by
  obtain⟨v,rfl,h,_,rfl⟩:=h;simp at hu;subst hu;rcases h.2 with⟨rfl,_⟩|⟨g,cap,cur,rfl,_⟩<;>rfl
theorem gm.zP{w0 w:World}{e:TypeId}{fq:List Nat}{cs:List Value}{x:gm w0.heap.size e}(h:Rd.rd fq w cs x):∃v fps,cs=[v]∧fq=v.ownBlock.toList∧bE (α:=av) w0 e w v fps x.o∧fps.flatten=[]:=by
 obtain⟨v,rfl,h,q,rfl⟩:=h;refine⟨v,List.replicate x.o.length [],rfl,rfl,⟨⟨x.o.map encI,h,?_⟩,by simp⟩,by simp⟩;exact⟨by simp,by simp,fun i B h1 D=>by simpa using JR (q _ (getElem_mem B)) w⟩
theorem bE.IX{w0 w:World}{e:TypeId}{v:Value}{fps:List (List Nat)}{xs:List av}(h:bE (α:=av) w0 e w v fps xs):Rd.rd v.ownBlock.toList w [v] (gm.mk w0.heap.size e xs):=by
 obtain⟨⟨q,D,B⟩,-⟩:=h;have I:∀i (h:i<xs.length) (h1:i<q.length),q[i]=encI xs[i]∧Io xs[i]:=fun i h h1=>(Iz (B.rd i h h1 (by rw[B.fl];exact h))).2
 have J:q=xs.map encI:=by
  apply List.ext_getElem
  ·rw[B.cl];simp
  ·intro i h1 K
   rw[(I i (by simpa using K) h1).1];simp
 rw[J] at D;refine⟨v,rfl,D,fun y O=>?_,rfl⟩;obtain⟨i,hi,rfl⟩:=List.mem_iff_getElem.1 O;exact(I i hi (by rw[B.cl];exact hi)).2
theorem gm.read{w0:World}{e:TypeId}{fp:List Nat}{w:World}{cs:List Value}{x:gm w0.heap.size e}(h:Rd.rd fp w cs x)(q:x.o.length≤bn):∃fq,Rd.rd (α:=List av) fq w cs x.o:=by
 obtain⟨v,fps,rfl,rfl,h1,D⟩:=gm.zP h;obtain⟨fq,B,-⟩:=h1.slR q;exact⟨fq,v,rfl,B⟩
theorem bE.Ka{w0 q w:World}{e J:TypeId}{v:Value}{fps:List (List Nat)}{xs:List (fZ q.heap.size J)}(h:bE w0 e w v fps xs)(ah:fps.flatten.Nodup)(au:∀b∈fps.flatten,q.heap.size≤b){j:Nat}(hj:j<xs.length):
  ∃g cap B I,v=.slice (some ⟨g,0,none⟩) xs.length cap∧g<w.heap.size∧w0.heap.size≤g∧xs.length≤cap∧w.cell? ⟨g,j,none⟩=some B∧w.frozen? ⟨g,j,none⟩=false∧bE (α:=Int) q J w B I xs[j].o∧I.flatten=[]∧g∉B.ownBlock.toList∧(∀b∈B.ownBlock.toList,b∈fps.flatten)∧
   (∀V v9 X,Wr B.ownBlock.toList w V→bE (α:=Int) q J V v9 (I++[[]]) X→(v9.ownBlock=B.ownBlock∨∃n,v9.ownBlock=some n∧w.heap.size≤n)→
    ∃D,bE w0 e (V.setCell ⟨g,j,none⟩ v9) v D (xs.set j (fZ.mk q.heap.size J X))∧D.flatten.Nodup∧(∀b∈D.flatten,q.heap.size≤b)∧∀b∈D.flatten,b∈fps.flatten∨b∈v9.ownBlock.toList):=by
 have hbase:=h.base;have ax:=h.apart;have ak:=h.lt;obtain⟨g,cap,cs,fq,rfl,h1,h2,h3,h4,h5,h6,h7,h8⟩:=h.upd hj;obtain⟨K,Y⟩:=List.getElem?_eq_some_iff.1 h4;obtain⟨B,I,rfl,O,hO,ay⟩:=fZ.zP h6;have hsub:∀c∈fq,c∈fps.flatten:=fun c hc=>List.mem_flatten.2 ⟨_,getElem_mem K,by rw[Y];exact hc⟩
 have Z:g∉fq:=fun hm=>ax g rfl (hsub g hm)
 have T:Rd.n (fZ q.heap.size J)=1:=rfl;have c1:=h5 0 B rfl;rw[T,mul_one,add_zero] at c1;refine⟨g,cap,B,I,rfl,h2,h1,h3,c1,h7 j,hO,ay,by rw[←O];exact Z,by rw[←O];exact hsub,fun V v9 X hw ai aZ=>?_⟩;rw[←O] at hw
 have U:∀c∈v9.ownBlock.toList,c∈fq∨w.heap.size≤c:=by
  intro c hc
  rcases aZ with e9|⟨n,e9,hn⟩
  ·rw[e9,←O] at hc;exact .inl hc
  ·rw[e9] at hc
   simp at hc;subst hc;exact .inr hn
 have aj:g∉v9.ownBlock.toList:=fun hm=>by
  rcases U g hm with h|h
  ·exact Z h
  ·omega
 have hr:Rd.rd v9.ownBlock.toList (V.setCell ⟨g,j,none⟩ v9) [v9] (fZ.mk q.heap.size J X):=Rd.wr ai.xq ((Wr.refl [g] _).setCell (by simp) v9) (fun c hc hm=>by simp at hm;subst hm;exact aj hc)
 have h9:=h8 V 0 v9 v9.ownBlock.toList (fZ.mk q.heap.size J X) hw Z (fun k hk bg c hc ae=>by
  have hp:=List.pairwise_iff_getElem.1 (List.pairwise_flatten.1 ah).2;rw[←Y] at ae;rcases Nat.lt_or_gt_of_ne bg with bq|bB
  ·exact hp k j hk K bq c hc c ae rfl
  ·exact hp j k K hk bB c ae c hc rfl) (by rw[T];omega) aj (by rw[T,mul_one,add_zero];exact hr)
 rw[T,mul_one,add_zero] at h9;refine⟨_,h9,oU ah K (by cases v9.ownBlock<;>simp) fun c hc=>?_,fun b hb=>?_,fun b hb=>gq hb⟩
 ·rcases U c hc with h|h
  ·rw[←Y] at h;exact .inl h
  ·exact .inr fun hm=>by have:=ak c hm;omega
 ·rcases gq hb with hb|hb
  ·exact au b hb
  ·exact(ai.base b (by simpa using hb)).1
theorem bE.Ke{w0 q w:World}{e J:TypeId}{v:Value}{fps:List (List Nat)}{xs:List (gm q.heap.size J)}(h:bE w0 e w v fps xs)(ah:fps.flatten.Nodup)(au:∀b∈fps.flatten,q.heap.size≤b){j:Nat}(hj:j<xs.length):
  ∃g cap B I,v=.slice (some ⟨g,0,none⟩) xs.length cap∧g<w.heap.size∧w0.heap.size≤g∧xs.length≤cap∧w.cell? ⟨g,j,none⟩=some B∧w.frozen? ⟨g,j,none⟩=false∧bE (α:=av) q J w B I xs[j].o∧I.flatten=[]∧g∉B.ownBlock.toList∧(∀b∈B.ownBlock.toList,b∈fps.flatten)∧
   (∀V v9 X,Wr B.ownBlock.toList w V→bE (α:=av) q J V v9 (I++[[]]) X→(v9.ownBlock=B.ownBlock∨∃n,v9.ownBlock=some n∧w.heap.size≤n)→
    ∃D,bE w0 e (V.setCell ⟨g,j,none⟩ v9) v D (xs.set j (gm.mk q.heap.size J X))∧D.flatten.Nodup∧(∀b∈D.flatten,q.heap.size≤b)∧∀b∈D.flatten,b∈fps.flatten∨b∈v9.ownBlock.toList):=by
 have hbase:=h.base;have ax:=h.apart;have ak:=h.lt;obtain⟨g,cap,cs,fq,rfl,h1,h2,h3,h4,h5,h6,h7,h8⟩:=h.upd hj;obtain⟨K,Y⟩:=List.getElem?_eq_some_iff.1 h4;obtain⟨B,I,rfl,O,hO,ay⟩:=gm.zP h6;have hsub:∀c∈fq,c∈fps.flatten:=fun c hc=>List.mem_flatten.2 ⟨_,getElem_mem K,by rw[Y];exact hc⟩
 have Z:g∉fq:=fun hm=>ax g rfl (hsub g hm)
 have T:Rd.n (gm q.heap.size J)=1:=rfl;have c1:=h5 0 B rfl;rw[T,mul_one,add_zero] at c1;refine⟨g,cap,B,I,rfl,h2,h1,h3,c1,h7 j,hO,ay,by rw[←O];exact Z,by rw[←O];exact hsub,fun V v9 X hw ai aZ=>?_⟩;rw[←O] at hw
 have U:∀c∈v9.ownBlock.toList,c∈fq∨w.heap.size≤c:=by
  intro c hc
  rcases aZ with e9|⟨n,e9,hn⟩
  ·rw[e9,←O] at hc;exact .inl hc
  ·rw[e9] at hc
   simp at hc;subst hc;exact .inr hn
 have aj:g∉v9.ownBlock.toList:=fun hm=>by
  rcases U g hm with h|h
  ·exact Z h
  ·omega
 have hr:Rd.rd v9.ownBlock.toList (V.setCell ⟨g,j,none⟩ v9) [v9] (gm.mk q.heap.size J X):=Rd.wr ai.IX ((Wr.refl [g] _).setCell (by simp) v9) (fun c hc hm=>by simp at hm;subst hm;exact aj hc)
 have h9:=h8 V 0 v9 v9.ownBlock.toList (gm.mk q.heap.size J X) hw Z (fun k hk bg c hc ae=>by
  have hp:=List.pairwise_iff_getElem.1 (List.pairwise_flatten.1 ah).2;rw[←Y] at ae;rcases Nat.lt_or_gt_of_ne bg with bq|bB
  ·exact hp k j hk K bq c hc c ae rfl
  ·exact hp j k K hk bB c ae c hc rfl) (by rw[T];omega) aj (by rw[T,mul_one,add_zero];exact hr)
 rw[T,mul_one,add_zero] at h9;refine⟨_,h9,oU ah K (by cases v9.ownBlock<;>simp) fun c hc=>?_,fun b hb=>?_,fun b hb=>gq hb⟩
 ·rcases U c hc with h|h
  ·rw[←Y] at h;exact .inl h
  ·exact .inr fun hm=>by have:=ak c hm;omega
 ·rcases gq hb with hb|hb
  ·exact au b hb
  ·exact(ai.base b (by simpa using hb)).1
theorem bE.Jv{α:Type}[Rd α]{w0 w:World}(e:TypeId)(h:w0.heap.size≤w.heap.size)(n:Nat)(x:α)(hn:Rd.n α=1)(B:∀W,Rd.rd [] W [.slice none 0 0] x){C:Array Value}(q:C.toList=List.replicate n (.slice none 0 0))(hm:n≤maxLen):
  bE w0 e (w.alloc (.cells C e)) (.slice (some ⟨w.heap.size,0,none⟩) n n) (List.replicate n []) (List.replicate n x):=by
 have hs:C.size=n:=by rw[←Array.length_toList,q];simp
 have h1:=World.ownsRow_lit (base:=w0.heap.size) (e:=e) (size:=Rd.n α) w C n h hm (by rw[hn,hs];omega);refine⟨⟨List.replicate n [.slice none 0 0],?_,?_⟩,fun b _=>by simp⟩
 ·rw[List.flatten_replicate_singleton,←q]
  simpa using h1
 ·exact⟨by simp,by simp,fun i D h1 I=>by simpa using B _⟩
theorem fZ.GG(base:Nat)(e:TypeId)(W:World):Rd.rd [] W [.slice none 0 0] (fZ.mk base e []):=⟨_,rfl,World.ownsRow_nil _ _ _ _,by simp[fZ.mk,fZ.o],rfl⟩
theorem gm.GG(base:Nat)(e:TypeId)(W:World):Rd.rd [] W [.slice none 0 0] (gm.mk base e []):=⟨_,rfl,World.ownsRow_nil _ _ _ _,by simp[gm.mk,gm.o],rfl⟩
variable{d:Nat}
def opW(o x y:Int):Int:=
 if o=1 then sat (wrap64 (x+y)) else if o=2 then sat (wrap64 (x - y)) else if o=3 then sat (wrap64 (x*y)) else if o=4 then max x y else if o=5 then min x y
 else if o=6 then bits .or .i64 x y else if o=7 then bits .and .i64 x y else if o=8 then bits .andNot .i64 x y
 else if o=9 then(if x<y then 1 else 0) else if o=10 then(if x=y then 1 else 0)
 else if o=11 then(if (0≤y∧y≤11)∧bits .and .i64 (x / 2 ^ y.toNat) 1=1 then 1 else 0)
 else if o=12 then(if 0≤y∧y≤11 then bits .or .i64 x (wrap64 (2 ^ y.toNat)) else x) else 0
def opV(o a b:Int):Int:=opW o (mY a (opT o).1) (mY b (opT o).2.1)
theorem pY{x:Int}(h:-9223372036854775808≤x∧x≤9223372036854775807):(Lit.int .i64 x).wf=true:=by
 have h1:IntKind.i64.min= -9223372036854775808:=by decide
 have q:IntKind.i64.max=9223372036854775807:=by decide
 unfold Lit.wf;simp only[h1,q,Bool.and_eq_true,decide_eq_true_eq];exact h
theorem Bd(x:Int):(Lit.int .i64 (sat x)).wf=true:=pY (by unfold sat;omega)
theorem H6{x:Int}(h:(Lit.int .i64 x).wf=true):-9223372036854775808≤x∧x≤9223372036854775807:=by
 have h1:IntKind.i64.min= -9223372036854775808:=by decide
 have q:IntKind.i64.max=9223372036854775807:=by decide
 unfold Lit.wf at h;simp only[h1,q,Bool.and_eq_true,decide_eq_true_eq] at h;exact h
theorem EF(v k:Int):(Lit.int .i64 (mY v k)).wf=true:=by
 unfold mY
 split
 ·exact Bd v
 ·split
  ·exact wf_bits _ _ _ _
  ·split
   ·split<;>exact pY (by omega)
   ·split
    ·split<;>exact pY (by omega)
    ·exact pY (by omega)
theorem JQ(o:Int){x y:Int}(J:(Lit.int .i64 x).wf=true)(Z:(Lit.int .i64 y).wf=true):(Lit.int .i64 (opW o x y)).wf=true:=by
 have h1:=H6 J;have h2:=H6 Z;unfold opW
 by_cases K:o=1
 ·rw[if_pos K]
  exact Bd _
 rw[if_neg K]
 by_cases O:o=2
 ·rw[if_pos O]
  exact Bd _
 rw[if_neg O]
 by_cases T:o=3
 ·rw[if_pos T]
  exact Bd _
 rw[if_neg T]
 by_cases U:o=4
 ·rw[if_pos U]
  exact pY (by omega)
 rw[if_neg U]
 by_cases V:o=5
 ·rw[if_pos V]
  exact pY (by omega)
 rw[if_neg V]
 by_cases X:o=6
 ·rw[if_pos X]
  exact wf_bits _ _ _ _
 rw[if_neg X]
 by_cases Y:o=7
 ·rw[if_pos Y]
  exact wf_bits _ _ _ _
 rw[if_neg Y]
 by_cases h:o=8
 ·rw[if_pos h]
  exact wf_bits _ _ _ _
 rw[if_neg h]
 by_cases q:o=9
 ·rw[if_pos q]
  split<;>exact pY (by omega)
 rw[if_neg q]
 by_cases B:o=10
 ·rw[if_pos B]
  split<;>exact pY (by omega)
 rw[if_neg B]
 by_cases D:o=11
 ·rw[if_pos D]
  split<;>exact pY (by omega)
 rw[if_neg D]
 by_cases I:o=12
 ·rw[if_pos I]
  split
  ·exact wf_bits _ _ _ _
  ·exact J
 rw[if_neg I];exact pY (by omega)
theorem Gw(o a b:Int):(Lit.int .i64 (opV o a b)).wf=true:=JQ o (EF _ _) (EF _ _)
section
variable{τ:Type}(A:τ→ag→Option (Int×τ))(R:τ→Int→ByteArray→ByteArray→Option (Int×τ))(lit:Int)(ids:List Int)
def evE:(n:Nat)→GE n→τ→Option (Int×τ)
 |0,x,_=>PEmpty.elim x
 |n+1,x,s=>(fun y:aA n=>
  if y.1=1 then some (y.2.1,s)
  else if y.1=2 then some (lit,s)
  else if y.1=3 then A s (y.2.2.1,y.2.2.2.2.2.1)
  else if y.1=4 then(match y.2.2.2.2.2.2 with
   |[a,b]=>(evE n a s).bind fun p=>(evE n b p.2).bind fun q=>some (opV y.2.1 p.1 q.1,q.2)
   |_=>none)
  else if y.1=5 then(match y.2.2.2.2.2.2 with
   |[a,b,c]=>(evE n a s).bind fun p=>if p.1=0 then evE n c p.2 else evE n b p.2
   |_=>none)
  else if y.1=6 then some (ids.getD y.2.2.1.toNat 0,s)
  else if y.1=8 then(match y.2.2.2.2.2.2 with
   |[a]=>(evE n a s).bind fun p=>R p.2 p.1 y.2.2.2.2.1 y.2.2.2.2.2.1
   |_=>none)
  else some (0,s)) x
theorem JB{n:Nat}(q0 q1 q2 q3:Int)(q4 q5:ByteArray)(q6:List (GE n))(s:τ):evE A R lit ids (n+1) ((q0,q1,q2,q3,q4,q5,q6):aA n) s=
  (if q0=1 then some (q1,s)
  else if q0=2 then some (lit,s)
  else if q0=3 then A s (q2,q5)
  else if q0=4 then(match q6 with
   |[a,b]=>(evE A R lit ids n a s).bind fun p=>(evE A R lit ids n b p.2).bind fun q=>some (opV q1 p.1 q.1,q.2)
   |_=>none)
  else if q0=5 then(match q6 with
   |[a,b,c]=>(evE A R lit ids n a s).bind fun p=>if p.1=0 then evE A R lit ids n c p.2 else evE A R lit ids n b p.2
   |_=>none)
  else if q0=6 then some (ids.getD q2.toNat 0,s)
  else if q0=8 then(match q6 with
   |[a]=>(evE A R lit ids n a s).bind fun p=>R p.2 p.1 q4 q5
   |_=>none)
  else some (0,s)):=rfl
end
def KF(t:List aT)(i:Int)(o:ag):Option av:=
 match nth t i with
 |none=>none
 |some n=>if o.1=0 then some (n.1,o.2) else if 1≤o.1∧o.1≤n.2.2.2.2.2.length then(match nth t (n.2.2.2.2.2.getD (o.1 - 1).toNat (-1)) with|none=>none|some m=>some (m.1,o.2)) else none
def iN:av:=(0,ByteArray.empty)
structure Eng where
 vals:List Int
 st:List Nat
 reads:List (List Nat)
 steps:Int
def Eng.rd(s:Eng)(k by_:Int):Eng:=if 0≤by_ then{s with reads:=s.reads.set by_.toNat (s.reads.getD by_.toNat []++[k.toNat])} else s
def Eng.mark(s:Eng)(k:Nat):Eng:={s with st:=s.st.set k 1}
def Eng.done(s:Eng)(k:Nat)(v:Int):Eng:={s with st:=s.st.set k 2,vals:=s.vals.set k v,steps:=s.steps+1}
def Eng.new(n:Nat):Eng:=⟨List.replicate n 0,List.replicate n 0,List.replicate n [],0⟩
abbrev Res:=Option (Int×Eng)
def getTop(C:Eng→Nat→Res)(s:Eng)(k by_:Int):Res:=
 if k<0 then some (0,s)
 else if s.st.getD k.toNat 0=2 then some (s.vals.getD k.toNat 0,s.rd k by_)
 else if s.st.getD k.toNat 0=1 then none
 else(C ((s.rd k by_).mark k.toNat) k.toNat).bind fun p=>some (p.1,p.2.done k.toNat p.1)
section
variable(g:af d)(t:List aT)(L:List av)(G:Eng→Int→Int→Res)
def JN(node:Nat)(by_:Int)(s:Eng)(o:ag):Res:=G s (gL L ((KF t node o).getD iN)) by_
def Gy(by_:Int)(s:Eng)(id:Int)(sym nm:ByteArray):Res:=if zB g t (dQ t id)=sym then G s (gL L (id,nm)) by_ else some (0,s)
def zk(node:Nat):Int:=match nth t (node:Int) with|none=>0|some n=>n.2.2.2.1
def eX(node:Nat)(by_:Int)(n:Nat)(x:GE n)(s:Eng):Res:=evE (JN t L G node by_) (Gy g t L G by_) (zk t node) (iB t node) n x s
def gp(x:av)(sym:ByteArray)(node:Nat)(by_:Int)(o:Res)(c:aD d):Res:=
 if c.1=sym∧c.2.1=x.2 then o.bind fun p=>(eX g t L G node by_ (d+1) c.2.2.1 p.2).bind fun q=>
  if q.1=x.1 then(eX g t L G node by_ (d+1) c.2.2.2 q.2).bind fun r=>some (bits .or .i64 p.1 r.1,r.2) else some (p.1,q.2)
 else o
def nT(node:Nat):List (aD d):=match nth t (node:Int) with|none=>[]|some n=>((dJ g.2 n.2.2.2.2.1).getD fH).2.2.2.2.2
def jQ(x:av)(sym:ByteArray)(by_:Int)(o:Res)(node:Nat):Res:=(nT g t node).foldl (gp g t L G x sym node by_) o
def BA(x:av)(k:Nat)(s:Eng):Res:=(List.range t.length).foldl (jQ g t L G x (zB g t (dQ t x.1)) k) (some (0,s))
def KM(s:Eng)(k:Nat):Res:=
 let x:=L.getD k iN
 if ((ed g t x).getD dR).2.2.1=3 then BA g t L G x k s
 else match zV g t x with
  |none=>some (0,s)
  |some p=>eX g t L G p.1.toNat k (d+1) p.2 s
end
def yH(g:af d)(t:List aT)(L:List av):Nat→Eng→Int→Int→Res
 |0=>getTop fun _ _=>none
 |f+1=>getTop (KM g t L (yH g t L f))
structure MvW(fp:List Nat)(W:World)(fq:List Nat)(W':World):Prop where
 wr:Wr fp W W'
 nw:∀b∈fq,b∈fp∨W.heap.size≤b
def Ap(fx fp:List Nat):Prop:=∀b∈fx,b∉fp
theorem Ap.nil(fp:List Nat):Ap [] fp:=fun b hb=>by simp at hb
theorem Ap.sub{fx q fp:List Nat}(h:Ap fx fp)(hs:∀b∈q,b∈fx):Ap q fp:=fun b hb=>h b (hs b hb)
theorem Ap.app{fx q fp:List Nat}(h:Ap fx fp)(k:Ap q fp):Ap (fx++q) fp:=fun b hb=>by
 rcases List.mem_append.1 hb with hb|hb
 ·exact h b hb
 ·exact k b hb
theorem MvW.refl(fp:List Nat)(W:World):MvW fp W fp W:=⟨Wr.refl _ _,fun b hb=>.inl hb⟩
theorem MvW.dm{fp:List Nat}{W W':World}(h:Gr W W'):MvW fp W fp W':=⟨h.eF _,fun b hb=>.inl hb⟩
theorem MvW.size{fp fq:List Nat}{W W':World}(h:MvW fp W fq W'):W.heap.size≤W'.heap.size:=h.wr.size
theorem MvW.trans{fp fq fr:List Nat}{W W' q:World}(h:MvW fp W fq W')(k:MvW fq W' fr q):MvW fp W fr q:=by
 refine⟨h.wr.Jp k.wr h.nw,fun b hb=>?_⟩;rcases k.nw b hb with hb|hb
 ·exact h.nw b hb
 ·exact .inr (by have:=h.size;omega)
theorem MvW.gr{fp fq:List Nat}{W W' q:World}(h:MvW fp W fq W')(k:Gr W' q):MvW fp W fq q:=h.trans (MvW.dm k)
theorem MvW.apart{fp fq fx:List Nat}{W W':World}(h:MvW fp W fq W')(q:Ap fx fp)(B:∀b∈fx,b<W.heap.size):Ap fx fq:=fun b hb D=>by
 rcases h.nw b D with h1|h1
 ·exact q b hb h1
 ·have:=B b hb;omega
theorem MvW.o{fp fq:List Nat}{W W':World}(h:MvW fp W fq W'){b:Nat}(B:b<W.heap.size)(hb:b∉fp):b∉fq:=fun q=>by
 rcases h.nw b q with h1|h1
 ·exact hb h1
 ·omega
theorem MvW.cell{fp fq:List Nat}{W W':World}(h:MvW fp W fq W'){b o:Nat}{v:Value}(hc:W.cell? ⟨b,o,none⟩=some v)(hb:b∉fp):W'.cell? ⟨b,o,none⟩=some v:=h.wr.aO hc hb
theorem MvW.row{fp fq:List Nat}{W W':World}(h:MvW fp W fq W'){b:Nat}{t:TypeId}{vs:List Value}(hc:az W b t vs)(hb:b∉fp):az W' b t vs:=hc.wr h.wr hb
theorem MvW.rd{α:Type}[Rd α]{fp fq fx:List Nat}{W W':World}{cs:List Value}{x:α}(h:MvW fp W fq W')(q:Rd.rd fx W cs x)(B:Ap fx fp):Rd.rd fx W' cs x:=Rd.wr q h.wr B
theorem MvW.sl{α:Type}[Rd α]{fp fq fx:List Nat}{W W':World}{v:Value}{xs:List α}(h:MvW fp W fq W')(q:SlR fx W v xs)(B:Ap fx fp):SlR fx W' v xs:=q.wr h.wr B
def Got(S:List Nat→Option Eng→World→Prop)(fp:List Nat)(W:World)(r:Res)(e:Ending)(w':World):Prop:=
 ∃(v:Int) (fq:List Nat),e=.returned (.int .i64 v)∧(Lit.int .i64 v).wf=true∧S fq (r.map (·.2)) w'∧(∀p,r=some p→p.1=v)∧MvW fp W fq w'
def Eng.free(s:Eng):Nat:=(s.st.filter fun x=>decide (x=0)).length
theorem oz{α:Type}(l:List α)(i j:Nat)(x z:α):(l.set i x).getD j z=if i=j∧j<l.length then x else l.getD j z:=by
 simp only[List.getD_eq_getElem?_getD,List.getElem?_set]
 by_cases h:i=j
 ·subst h
  by_cases q:i<l.length
  ·simp[q]
  ·simp[q]
 ·simp[h]
theorem getD_set_ne{α:Type}(l:List α){i j:Nat}(x z:α)(h:i≠j):(l.set i x).getD j z=l.getD j z:=by rw[oz,if_neg (fun k=>h k.1)]
theorem gM{α:Type}(l:List α){i:Nat}(x z:α)(h:i<l.length):(l.set i x).getD i z=x:=by rw[oz,if_pos ⟨rfl,h⟩]
def Eng.busy(s:Eng)(by_:Int):Prop:=0≤by_∧s.st.getD by_.toNat 0=1
structure Kp(by_:Int)(m:Nat)(s s':Eng):Prop where
 vl:s'.vals.length=s.vals.length
 sl:s'.st.length=s.st.length
 rl:s'.reads.length=s.reads.length
 busy:∀j:Nat,s.st.getD j 0=1→s'.st.getD j 0=1∧((j:Int)≠by_→s'.reads.getD j []=s.reads.getD j [])∧(s'.reads.getD j []).length≤(s.reads.getD j []).length+m
 free:∀j:Nat,s'.st.getD j 0=0→s.st.getD j 0=0
theorem Kp.refl(by_:Int)(s:Eng):Kp by_ 0 s s:=⟨rfl,rfl,rfl,fun j h=>⟨h,fun _=>rfl,le_refl _⟩,fun j h=>h⟩
theorem Kp.mono{by_:Int}{m k:Nat}{s q:Eng}(h:Kp by_ m s q)(hk:m≤k):Kp by_ k s q:=⟨h.vl,h.sl,h.rl,fun j B=>by have:=h.busy j B;exact⟨this.1,this.2.1,by omega⟩,h.free⟩
theorem Kp.trans{by_:Int}{m k:Nat}{a b c:Eng}(h:Kp by_ m a b)(q:Kp by_ k b c):Kp by_ (m+k) a c:=by
 refine⟨q.vl.trans h.vl,q.sl.trans h.sl,q.rl.trans h.rl,fun j B=>?_,fun j B=>h.free j (q.free j B)⟩;have D:=h.busy j B;have I:=q.busy j D.1;exact⟨I.1,fun e=>(I.2.1 e).trans (D.2.1 e),by omega⟩
theorem Kp.still{by_ k:Int}{m:Nat}{s q:Eng}(h:Kp by_ m s q)(hb:s.busy k):q.busy k:=⟨hb.1,(h.busy _ hb.2).1⟩
theorem Kp.room{by_ k:Int}{m:Nat}{s q:Eng}(h:Kp by_ m s q)(hb:s.busy k):(q.reads.getD k.toNat []).length≤(s.reads.getD k.toNat []).length+m:=(h.busy _ hb.2).2.2
theorem Kp.same{by_ k:Int}{m:Nat}{s q:Eng}(h:Kp by_ m s q)(hb:s.busy k)(hk:k≠by_):q.reads.getD k.toNat []=s.reads.getD k.toNat []:=(h.busy _ hb.2).2.1 (by have:=hb.1;omega)
theorem oV{n:Nat}(q0 q1 q2 q3:Int)(q4 q5:ByteArray)(q6:List (GE n)):cZ (n+1) ((q0,q1,q2,q3,q4,q5,q6):aA n)=1+(q6.map (cZ n)).sum:=rfl
def Eng.on(s:Eng)(N:Nat)(by_:Int):Prop:=s.busy by_∧s.st.length=N
theorem Kp.on{by_ k:Int}{m N:Nat}{s q:Eng}(h:Kp by_ m s q)(hb:s.on N k):q.on N k:=⟨h.still hb.1,h.sl.trans hb.2⟩
theorem qD{A:Eng→ag→Res}{R:Eng→Int→ByteArray→ByteArray→Res}{lit:Int}{ids:List Int}{by_:Int}{N:Nat}
  (D:∀s o p,s.on N by_→A s o=some p→Kp by_ 1 s p.2) (I:∀s i y n p,s.on N by_→R s i y n=some p→Kp by_ 1 s p.2):
  ∀(n:Nat) (x:GE n) (s:Eng) (p:Int×Eng),s.on N by_→evE A R lit ids n x s=some p→Kp by_ (cZ n x) s p.2
 |0,x,_,_,_,_=>PEmpty.elim x
 |n+1,x,s,p,hs,h=>by
  obtain⟨q0,q1,q2,q3,q4,q5,q6⟩:=(x:aA n);rw[oV]
  have same:∀v:Int,some (v,s)=some p→Kp by_ (1+(q6.map (cZ n)).sum) s p.2:=fun v e=>by
   obtain rfl:=Option.some.inj e;exact(Kp.refl by_ s).mono (by omega)
  rw[JB] at h
  by_cases h1:q0=1
  ·rw[if_pos h1] at h;exact same _ h
  rw[if_neg h1] at h
  by_cases K:q0=2
  ·rw[if_pos K] at h;exact same _ h
  rw[if_neg K] at h
  by_cases O:q0=3
  ·rw[if_pos O] at h;exact(D _ _ _ hs h).mono (by omega)
  rw[if_neg O] at h
  by_cases T:q0=4
  ·rw[if_pos T] at h
   match q6,h with
   |[a,b],h=>
    obtain⟨r,hr,h⟩:=Option.bind_eq_some_iff.1 h;obtain⟨q,Z,h⟩:=Option.bind_eq_some_iff.1 h;obtain rfl:=Option.some.inj h;have B:=qD D I n a s r hs hr;have J:=qD D I n b r.2 q (B.on hs) Z;exact(B.trans J).mono (by simp<;>omega)
  rw[if_neg T] at h
  by_cases U:q0=5
  ·rw[if_pos U] at h
   match q6,h with
   |[a,b,c],h=>
    obtain⟨r,hr,h⟩:=Option.bind_eq_some_iff.1 h;have B:=qD D I n a s r hs hr
    by_cases V:r.1=0
    ·rw[if_pos V] at h
     have J:=qD D I n c r.2 p (B.on hs) h;exact(B.trans J).mono (by simp<;>omega)
    ·rw[if_neg V] at h
     have J:=qD D I n b r.2 p (B.on hs) h;exact(B.trans J).mono (by simp<;>omega)
  rw[if_neg U] at h
  by_cases X:q0=6
  ·rw[if_pos X] at h;exact same _ h
  rw[if_neg X] at h
  by_cases Y:q0=8
  ·rw[if_pos Y] at h
   match q6,h with
   |[a],h=>
    obtain⟨r,hr,h⟩:=Option.bind_eq_some_iff.1 h;have B:=qD D I n a s r hs hr;have J:=I _ _ _ _ _ (B.on hs) h;exact(B.trans J).mono (by simp<;>omega)
  rw[if_neg Y] at h;exact same _ h
theorem J5{s:Eng}{k by_:Int}(hb:by_<0∨s.busy by_):Kp by_ 1 s (s.rd k by_):=by
 unfold Eng.rd
 by_cases h:0≤by_
 ·rw[if_pos h]
  refine⟨rfl,rfl,by simp,fun j q=>⟨q,fun e=>?_,?_⟩,fun j q=>q⟩
  ·exact getD_set_ne _ _ _ (by omega)
  ·simp only[oz]
   split
   ·next e=>
    rw[←e.1];simp
   ·omega
 ·rw[if_neg h]
  exact(Kp.refl by_ s).mono (by omega)
theorem zC{C:Eng→Nat→Res}{N:Nat}(hC:∀s (k:Nat) p,s.on N k→C s k=some p→∃m,Kp k m s p.2){s:Eng}(hN:s.st.length=N){k by_:Int}{p:Int×Eng}(hk:k<s.st.length)(hb:by_<0∨s.busy by_)(h:getTop C s k by_=some p):Kp by_ 1 s p.2:=by
 unfold getTop at h
 by_cases U:k<0
 ·rw[if_pos U] at h
  obtain rfl:=Option.some.inj h;exact(Kp.refl by_ s).mono (by omega)
 rw[if_neg U] at h;have hr:Kp by_ 1 s (s.rd k by_):=J5 hb
 by_cases V:s.st.getD k.toNat 0=2
 ·rw[if_pos V] at h
  obtain rfl:=Option.some.inj h;exact hr
 rw[if_neg V] at h
 by_cases h1:s.st.getD k.toNat 0=1
 ·rw[if_pos h1] at h;cases h
 rw[if_neg h1] at h;obtain⟨q,X,h⟩:=Option.bind_eq_some_iff.1 h;obtain rfl:=Option.some.inj h;have I:(s.rd k by_).st=s.st:=by unfold Eng.rd;split<;>rfl
 obtain⟨s1,Y⟩:=nm (s.rd k by_);rw[←Y] at hr X I;have J:k.toNat<s1.st.length:=by rw[I];omega
 obtain⟨m,hm⟩:=hC (s1.mark k.toNat) k.toNat q ⟨⟨by omega,gM _ _ _ (by simpa using J)⟩,by show(s1.st.set _ _).length=N;rw[length_set,I];exact hN⟩ X;have Z:k.toNat<q.2.st.length:=by rw[hm.sl];simpa[Eng.mark] using J
 refine⟨?_,?_,?_,fun j B=>?_,fun j B=>?_⟩
 ·show(q.2.vals.set _ _).length=_
  rw[length_set,hm.vl];exact hr.vl
 ·show(q.2.st.set _ _).length=_
  rw[length_set,hm.sl]
  show(s1.st.set _ _).length=_
  rw[length_set];exact hr.sl
 ·show q.2.reads.length=_
  rw[hm.rl];exact hr.rl
 ·have D:j≠k.toNat:=fun e=>by subst e;exact h1 B
  have K:=hr.busy j B
  have O:=hm.busy j (by
   show(s1.st.set _ _).getD j 0=1
   rw[getD_set_ne _ _ _ (fun e=>D e.symm)];exact K.1)
  refine⟨?_,fun e=>?_,?_⟩
  ·show(q.2.st.set _ _).getD j 0=1
   rw[getD_set_ne _ _ _ (fun e=>D e.symm)];exact O.1
  ·exact(O.2.1 (by omega)).trans (K.2.1 e)
  ·have e:=O.2.1 (by omega)
   show(q.2.reads.getD j []).length≤_
   rw[e];exact K.2.2
 ·have D:j≠k.toNat:=fun e=>by
   subst e
   change (q.2.st.set _ _).getD k.toNat 0=0 at B
   rw[gM _ _ _ Z] at B;exact absurd B (by decide)
  change (q.2.st.set _ _).getD j 0=0 at B
  rw[getD_set_ne _ _ _ (fun e=>D e.symm)] at B;have T:=hm.free j B
  change (s1.st.set _ _).getD j 0=0 at T
  rw[getD_set_ne _ _ _ (fun e=>D e.symm)] at T;exact hr.free j T
theorem kS(L:List av)(x:av):gL L x<L.length∧-1≤gL L x:=by
 rcases ui L x with h|⟨k,h,hk,-⟩<;>omega
section
variable{g:af d}{t:List aT}{L:List av}{G:Eng→Int→Int→Res}
def KpG(L:List av)(G:Eng→Int→Int→Res):Prop:=∀s k by_ p,k<(L.length:Int)→s.st.length=L.length→(by_<0∨s.busy by_)→G s k by_=some p→Kp by_ 1 s p.2
theorem lG(q:KpG L G){node:Nat}{by_:Int}{n:Nat}{x:GE n}{s:Eng}{p:Int×Eng}(hs:s.on L.length by_)(h:eX g t L G node by_ n x s=some p):Kp by_ (cZ n x) s p.2:=by
 refine qD (fun s o p hs h=>q _ _ _ _ (kS _ _).1 hs.2 (.inr hs.1) h) (fun s i y m p hs h=>?_) n x s p hs h
 unfold Gy at h
 split at h
 ·exact q _ _ _ _ (kS _ _).1 hs.2 (.inr hs.1) h
 ·obtain rfl:=Option.some.inj h
  exact(Kp.refl by_ s).mono (by omega)
theorem DV(D:KpG L G){x:av}{sym:ByteArray}{node:Nat}{by_:Int}{c:aD d}(hc:cZ (d+1) c.2.2.1≤24∧cZ (d+1) c.2.2.2≤24){u:Int}{s:Eng}{p:Int×Eng}(hs:s.on L.length by_)(h:gp g t L G x sym node by_ (some (u,s)) c=some p):Kp by_ 48 s p.2:=by
 unfold gp at h
 split at h
 ·rw[Option.bind_some] at h
  obtain⟨q,I,h⟩:=Option.bind_eq_some_iff.1 h;have B:=lG D hs I
  split at h
  ·obtain⟨r,hr,h⟩:=Option.bind_eq_some_iff.1 h
   obtain rfl:=Option.some.inj h;have J:=lG D (B.on hs) hr;exact(B.trans J).mono (by omega)
  ·obtain rfl:=Option.some.inj h
   exact B.mono (by omega)
 ·obtain rfl:=Option.some.inj h
  exact(Kp.refl by_ s).mono (by omega)
theorem rT{x:av}{sym:ByteArray}{node:Nat}{by_:Int}{c:aD d}:gp g t L G x sym node by_ none c=none:=by
 unfold gp
 split<;>rfl
theorem xR(J:KpG L G){x:av}{sym:ByteArray}{node:Nat}{by_:Int}:∀(cs:List (aD d)) (hc:∀c∈cs,cZ (d+1) c.2.2.1≤24∧cZ (d+1) c.2.2.2≤24) (u:Int) (s:Eng) (p:Int×Eng) (hs:s.on L.length by_) (h:cs.foldl (gp g t L G x sym node by_) (some (u,s))=some p),Kp by_ (cs.length*48) s p.2:=by
 intro cs
 induction cs with
 |nil=>
  intro hc u s p hs h
  obtain rfl:=Option.some.inj h;exact(Kp.refl by_ s).mono (by omega)
 |cons c cs B=>
  intro hc u s p hs h
  rw[foldl_cons] at h
  cases D:gp g t L G x sym node by_ (some (u,s)) c with
  |none=>
   rw[D] at h
   have:∀l:List (aD d),l.foldl (gp g t L G x sym node by_) none=none:=fun l=>by
    induction l with
    |nil=>rfl
    |cons a l B=>rw[foldl_cons,rT];exact B
   rw[this] at h
   cases h
  |some q=>
   rw[D] at h;have I:=DV J (hc c (by simp)) hs D;have K:=B (fun z hz=>hc z (List.mem_cons_of_mem _ hz)) q.1 q.2 p (I.on hs) h;exact(I.trans K).mono (by simp<;>omega)
theorem qX{x:av}{sym:ByteArray}{node:Nat}{by_:Int}(l:List (aD d)):l.foldl (gp g t L G x sym node by_) none=none:=by
 induction l with
 |nil=>rfl
 |cons a l h=>rw[foldl_cons,rT];exact h
def ED(g:af d)(t:List aT):Prop:=∀node,(nT g t node).length≤2∧∀c∈nT g t node,cZ (d+1) c.2.2.1≤24∧cZ (d+1) c.2.2.2≤24
theorem uh(J:KpG L G)(K:ED g t){x:av}{sym:ByteArray}{by_:Int}:∀(l:List Nat) (u:Int) (s:Eng) (p:Int×Eng) (hs:s.on L.length by_) (h:l.foldl (jQ g t L G x sym by_) (some (u,s))=some p),Kp by_ (l.length*96) s p.2:=by
 intro l
 induction l with
 |nil=>
  intro u s p hs h
  obtain rfl:=Option.some.inj h;exact(Kp.refl by_ s).mono (by omega)
 |cons c l B=>
  intro u s p hs h
  rw[foldl_cons] at h
  cases D:jQ g t L G x sym by_ (some (u,s)) c with
  |none=>
   rw[D] at h
   have:∀l:List Nat,l.foldl (jQ g t L G x sym by_) none=none:=fun l=>by
    induction l with
    |nil=>rfl
    |cons a l B=>
     rw[foldl_cons,show jQ g t L G x sym by_ none a=none from qX _];exact B
   rw[this] at h
   cases h
  |some q=>
   rw[D] at h;have h1:=K c;have I:=xR J _ h1.2 u s q hs D;have O:=B q.1 q.2 p (I.on hs) h;exact(I.trans O).mono (by simp<;>omega)
theorem wZ(q:KpG L G)(B:ED g t)(s:Eng)(k:Nat)(p:Int×Eng)(hs:s.on L.length k)(h:KM g t L G s k=some p):∃m,Kp k m s p.2:=by
 unfold KM at h;simp only at h
 split at h
 ·exact⟨_,uh q B _ _ _ _ hs h⟩
 ·split at h
  ·obtain rfl:=Option.some.inj h
   exact⟨_,Kp.refl _ _⟩
  ·exact⟨_,lG q hs h⟩
end
theorem pG{g:af d}{t:List aT}{L:List av}(q:ED g t):∀f,KpG L (yH g t L f):=by
 intro f
 induction f with
 |zero=>
  intro s k by_ p hk hs hb h
  exact zC (N:=L.length) (fun s k p _ h=>by cases h) hs (by rw[hs];exact hk) hb h
 |succ f B=>
  intro s k by_ p hk hs hb h
  exact zC (fun s k p hs h=>wZ B q s k p hs h) hs (by rw[hs];exact hk) hb h
theorem CV(o a b:Int)(w:World):Qz 166 #[.int .i64 o,.int .i64 a,.int .i64 b] w (.int .i64 (opV o a b)):=by
 obtain⟨x,h⟩:=nm (mY a (opT o).1);obtain⟨y,q⟩:=nm (mY b (opT o).2.1);have B:=Kz h;have D:=Kz q;clear h q;delta Qz;go_in;go_wp2_with fail;refine(uK _ _).mono ?_;rintro e w' ⟨rfl,I,rfl⟩;go_wp2_with fail;refine(lW _ _ _).mono ?_;rintro e w' ⟨rfl,J,rfl⟩;rw[←B.o];go_wp2_with fail;refine(lW _ _ _).mono ?_;rintro e w' ⟨rfl,K,rfl⟩;rw[←D.o]
 go_wp2_with (first|(go_at_call 202;refine(ou _ _).mono ?_;rintro e w' ⟨rfl,rfl⟩)|(go_at_call 205;refine(mV _ _ _).mono ?_;rintro e w' ⟨rfl,rfl⟩)|(go_at_call 206;refine(tO _ _ _).mono ?_;rintro e w' ⟨rfl,rfl⟩)|(go_at_call 203;refine(qm _ _).mono ?_;rintro e w' ⟨rfl,rfl⟩)|(go_at_call 96;refine(fI _ _ _ _).mono ?_;rintro e w' ⟨rfl,rfl⟩))
 go_ways
 all_goals
  go_ret;refine⟨aC ?_,gd⟩;rw[show opV o a b=opW o x y by unfold opV;rw[B.o,D.o]];unfold opW;simp only[beq_iff_eq,beq_eq_false_iff_ne] at*
  first|(simp_all;done)|(simp_all;omega)|(have hm:max y 0=y:=(by omega);simp only[hm] at*;simp_all;done)
set_option maxRecDepth 100000 in
theorem Ak{ft:List Nat}{ct:Array Value}(t:fU)(i:Int)(w:World)(ht:Rd.rd ft w ct.toList t)(hl:gY t≤1048576):
  Calls Tryz.prog 167 #[.agg ct,.int .i64 i] w (p8 w (iB t i)):=by
 obtain⟨i0,hi⟩:=info_parts Tryz.kJ;have J:=Kz hi;clear hi;have dB:=Kz hl;clear hl;obtain⟨t0,u6,ak,ve,rfl,rfl,-,O,q9,sO⟩:=K8 ht;have cB:=O.op3;clear ht
 by_cases T:0≤i∧i≤(t0.length:Int) - 1
 ·obtain⟨m,rfl⟩:∃m:Nat,i=m:=⟨i.toNat,by omega⟩
  have h:m<t0.length:=by omega
  have au:=Kz T;have U:=Ah dB.o h;have V:=Bg h;obtain⟨b,off,rfl,vB⟩:=cB m h;obtain⟨q0,q1,q2,q3,q4,q5,vD,vF,vG,vL,ax,vO,ay,dS,dV,fe,fu,X,uf,uo,gD,vR,vX,wF,wL,aZ,xc⟩:=KZ O h (Gr.refl _);have cK:=X.op3;rw[←ax.o] at U V;have gF:=Kz X;have gT:=Kz ay;have gV:=Kz V;have x9:q5.length≤1048576:=U;have Y:KI t0 (m:Int)=[q0]:=by rw[wo h,←ax.o]
  have cO:=Kz Y;have yc:(0:Int)≤(m:Int):=by omega
  have yu:(m:Int)<(t0.length:Int):=by omega
  clear V T X ay dS dV fe fu Y U;go_in;go_wp2_with fail;generalize hB:(w.alloc (.cells #[.slice (some ⟨b,off,none⟩) t0.length ak] 43))=B;have Z:Gr w B:=gb hB;have bg:=kb hB (w.heap.size) 0 (.slice (some ⟨b,off,none⟩) t0.length ak);have sB:B.heap.size=w.heap.size+1:=szB hB;clear hB;have y0:=bg _ (Gr.refl _);refine(fJ (m:Int) 0 _ _ au.o.1 au.o.2).mono ?_;rintro e w' ⟨rfl,x1,rfl⟩;have y5:=Z.keep gD;have y7:=Z.keep aZ;have bq:bE (α:=Int) B 3 ((B.alloc (.cells #[] 3)).ext x1) (.slice (some ⟨w.heap.size+1,0,none⟩) 0 0) [] []:=(bE.kF (α:=Int) (w0:=B) (w:=B) 3 (le_refl _) (show w.heap.size+1=B.heap.size by omega)).gr gd;have gX:=Kz bq;clear bq
  go_wp2_with (first|(at_builtin;refine bP (α:=Int) (w0:=B) gd rfl _ _ 54 rfl 3 i0 (.int .i64 0) 8 Tryz.underlying54 J.o.1 J.o.2.1 J.o.2.2.1 J.o.2.2.2 rfl _ [] [] (by rfl) (gX.o.gr gd) _ [[]] [q0] (by rfl) (eT.one (by simp<;>omega) (rO gT.o _)) (fun b _=>by simp) (by unfold maxLen;simp) (by simp) ?_;intro v9 w9 k1 k2 k3 k4;replace k1:=Kz k1;replace k4:=Kz k4;clear k2 k3))
  go_loopw [6,5] (fun s6 s5 wr=>∃(k:Nat) (fps:List (List Nat)),k≤q5.length∧Ky (fps.flatten=[])∧Gr B wr∧bE (α:=Int) B 3 wr s5 fps (((m:Int)::q5.take k).flatMap (KI t0))∧s6=.int .i64 k) (fun s6 _ _=>q5.length - (intOf s6).toNat)
  case atStart=>exact⟨0,[[]],by omega,Kz rfl,k4.o,by rw[List.take_zero,List.flatMap_cons,cO.o];exact k1.o,rfl⟩
  case round=>
   obtain⟨k,fps,hk,HF,hg,hown,rfl⟩:=hrel
   rename World=>W3
   have ae:=Kz hg;have HO:=Kz hown;obtain⟨ra,y8,K⟩:=hown.form;obtain⟨M,hM⟩:=nm (((m:Int)::q5.take k).flatMap (KI t0))
   have y9:M.length≤1048577:=by
    have:=ES t0 ((m:Int)::q5.take k);rw[←hM,List.length_cons,List.length_take] at this;omega
   rw[←hM] at K;have q:=Kz hM;have y1:=bg _ hg;have za:=blk y1;have I:=Z.trans hg;have ik:=I.keep aZ;have zb:=blk ik;have bB:=Kz I;subst K;clear hg hown hM I
   by_cases ah:k<q5.length
   ·obtain⟨c,hc⟩:=nm (q5[k])
    obtain⟨bL,oL,rfl,ze⟩:=cK k ah;have cL:=bB.o.keep (gF.o.fQ ah).1;rw[←hc] at cL;have bH:((m:Int)::q5.take (k+1)).flatMap (KI t0)=M++KI t0 c:=by rw[List.take_succ_eq_append_getElem ah,←List.cons_append,List.flatMap_append,←q.o,←hc];simp
    have bR:=Kz bH;have j0:(0:Int)≤(k:Int):=by omega
    have j1:(k:Int)<(q5.length:Int):=by omega
    clear hc bH
    by_cases hc:0≤c∧c≤(t0.length:Int) - 1
    ·obtain⟨n,rfl⟩:∃n:Nat,c=n:=⟨c.toNat,by omega⟩
     have h:n<t0.length:=by omega
     have HC:=Kz hc;have I:=bB.o;obtain⟨p0,p1,p2,p3,p4,p5,zf,zg,zl,zn,iw,zo,bX,kr,ku,ky,lq,oH,uq,uz,zq,zu,zx,zy,zH,zL,zO⟩:=KZ O h I;have o5:=Kz bX;have z8:(0:Int)≤(n:Int):=by omega
     have A7:(n:Int)<(t0.length:Int):=by omega
     have ai:KI t0 (n:Int)=[p0]:=by rw[wo h,←iw.o]
     have aj:=Kz ai;clear ai I bX kr ku ky lq oH hc;go_wp2_with fail;refine(fJ (n:Int) 0 _ _ HC.o.1 HC.o.2).mono ?_;rintro e w' ⟨rfl,x4,rfl⟩
     go_wp2_with (first|(at_builtin;refine bP (α:=Int) (w0:=B) (tg ae) rfl _ _ 54 rfl 3 i0 (.int .i64 0) 8 Tryz.underlying54 J.o.1 J.o.2.1 J.o.2.2.1 J.o.2.2.2 rfl _ fps _ (by rfl) (HO.o.gr gd) _ [[]] [p0] (by rfl) (eT.one (by simp) (rO o5.o _)) (fun b _=>by simp) (by rw[←q.o];unfold maxLen;simp;omega) (by rw[←q.o];simp;omega) ?_;intro v3 w3 h1 h2 h3 h4;replace h1:=Kz h1;replace h4:=Kz h4;clear h2 h3))
     refine⟨⟨k+1,fps++[[]],by omega,Kz (by rw[List.flatten_append,HF.o];rfl),h4.o,?_,by go_num⟩,by simp[intOf];omega⟩;rw[bR.o,aj.o,q.o];exact h1.o
    ·have D:c<0∨(t0.length:Int) - 1<c:=by omega
     have HC:=Kz D;have aj:=Kz (BK D);clear D hc;go_wp2_with fail;refine(eu c 0 _ _ HC.o).mono ?_;rintro e w' ⟨rfl,x4,rfl⟩;go_wp2_with fail;refine⟨⟨k+1,fps,by omega,HF,ae.o.trans gd,?_,by go_num⟩,by simp[intOf];omega⟩;rw[bR.o,aj.o,List.append_nil];have h1:=HO.o;rw[←q.o] at h1;exact h1.gr gd
   ·have o9:k=q5.length:=by omega
    subst o9;have qb:=HO.o.fresh (by rw[←q.o];unfold bn;omega) (by rw[HF.o];exact aY.nil _);obtain⟨fq,hs,hf⟩:=qb;rw[←q.o] at hs;have HS:=Kz hs;have q8:=Kz (hf.of_le Z.size);have hN:iB t0 (m:Int)=M:=by rw[gV.o,q.o,List.take_length]
    have HN:=Kz hN;clear hs hf hN;go_wp2_with fail;go_ret;exact⟨_,fq,rfl,by rw[HN.o];exact HS.o.gr gd,q8.o,Z.trans (tg ae)⟩
 ·have D:i<0∨(t0.length:Int) - 1<i:=by omega
  have HO:=Kz D;have HN:=Kz (BL D);clear D T;go_in;go_wp2_with fail;refine(eu i 0 _ _ HO.o).mono ?_;rintro e w' ⟨rfl,x1,rfl⟩;go_wp2_with fail;go_ret;exact⟨_,[],rfl,by rw[HN.o];exact⟨_,0,rfl,by simp,by simp,.inl ⟨rfl,rfl⟩⟩,aY.nil _,gd⟩
set_option maxRecDepth 100000 in
theorem AB{ft:List Nat}{ct:Array Value}(t:fU)(i:Int)(w:World)(ht:Rd.rd ft w ct.toList t)(hl:gY t≤1048576):
  Calls Tryz.prog 147 #[.agg ct,.int .i64 i] w (p8 w (iB t i)):=by
 obtain⟨i0,hi⟩:=info_parts Tryz.kJ;have K:=Kz hi;clear hi;have iw:=Kz hl;clear hl;have HT:=Kz ht;obtain⟨t0,yu,bq,y5,rfl,rfl,-,X,wF,gT⟩:=K8 ht;have gV:=X.op3;clear ht
 by_cases Y:0≤i∧i≤(t0.length:Int) - 1
 ·obtain⟨m,rfl⟩:∃m:Nat,i=m:=⟨i.toNat,by omega⟩
  have D:m<t0.length:=by omega
  have bB:=Kz Y;have kr:=Ah iw.o D;have Z:=Bg D;obtain⟨b,off,rfl,y7⟩:=gV m D;obtain⟨q0,q1,q2,q3,q4,q5,y8,y9,za,zb,ku,ze,zf,zg,zl,zn,zo,bH,wL,xc,ky,lq,oH,o5,o9,bR,zq⟩:=KZ X D (Gr.refl _);rw[←ku.o] at kr Z;obtain⟨qb,hsrc,-,-⟩:=eT.qL bH;have bX:=hsrc.flat nK;have gX:=Kz hsrc;have cB:=Kz bX;have HM:=Kz (jm (y:=(m:Int)) (by omega) (by have:=gT;omega));obtain⟨L,hL⟩:=nm ([(m:Int)]++q5);have zu:L.length=q5.length+1:=by rw[hL];simp
  have ae:iB t0 (m:Int)=L.flatMap (KI t0):=by rw[Z,hL];rfl
  have HL:=Kz hL;have q8:=Kz ae;have zx:(0:Int)≤(m:Int):=by omega
  have zy:(m:Int)<(t0.length:Int):=by omega
  clear hsrc bX Z ae hL Y bH;go_in;go_wp2_with fail;generalize hB:(w.alloc (.cells #[.slice (some ⟨b,off,none⟩) t0.length bq] 43))=B;have T:Gr w B:=gb hB;have cK:=kb hB (w.heap.size) 0 (.slice (some ⟨b,off,none⟩) t0.length bq);have sB:B.heap.size=w.heap.size+1:=szB hB;clear hB;refine(gQ t0 _ _ (Rd.gr HT.o (T.trans gd)) bB.o.1 bB.o.2).mono ?_;rintro e W2 ⟨rfl,g2⟩;have O:Gr B W2:=(gd:Gr B (B.alloc (.cells #[] 3))).trans g2;have cO:=(bE.kF (α:=Int) (w0:=B) (w:=B) 3 (le_refl _) (show w.heap.size+1=B.heap.size by omega)).gr g2;have q9:=Kz cO;have zH:w.heap.size+1<W2.heap.size:=by have:=g2.size;simp at this;omega
  have y0:=cK _ O;have zL:=blk y0;have sO:=Kz O;have dB:=(T.trans O).keep bR;have zO:=blk dB;have ik:=Kz (T.trans O);clear g2 O cO
  go_wp2_with (first|(at_builtin;refine bP (α:=Int) (w0:=W2) gd rfl _ _ 54 rfl 3 i0 (.int .i64 0) 8 Tryz.underlying54 K.o.1 K.o.2.1 K.o.2.2.1 K.o.2.2.2 rfl _ [[]] [(m:Int)] (by rfl) (bE.Kg 3 (le_refl _) (by simp) HM.o) _ qb q5 (by rfl) (gX.o.gr (tg ik)) (fun b _=>by rw[cB.o];simp) (by unfold maxLen;simp;omega) (by simp;omega) ?_;intro v9 w9 V k2 k3 k4;rw[←HL.o] at V;obtain⟨ra,rc,rfl⟩:=V.form;replace V:=Kz V;replace k4:=Kz k4;clear k2 k3))
  have ah:=V.o.fresh (by unfold bn;omega) (by simp[cB.o];exact aY.nil _);obtain⟨fL,sL,dS⟩:=ah;have uf:=Kz dS;obtain⟨aL,z8,eL,-,-,dV⟩:=sL.open;injection eL with uo _ uq;subst uo uq;obtain⟨bL,oL,rfl,-⟩:=dV 0 (by omega);have uz:=Kz sL;have u6:=Kz (SlR.lt sL);clear V dS sL dV
  go_loopw [24,5] (fun ai s5 wr=>∃(k:Nat) (fps:List (List Nat)),k≤L.length∧Ky (fps.flatten=[])∧Gr B wr∧SlR fL wr (.slice (some ⟨bL,oL,none⟩) L.length rc) L∧Ky (∀b,s5.ownBlock=some b→b=w.heap.size+1∨w9.heap.size≤b)∧w9.heap.size≤wr.heap.size∧bE (α:=Int) B 3 wr s5 fps ((L.take k).flatMap (KI t0))∧ai=.int .i64 k) (fun ai _ _=>L.length - (intOf ai).toNat)
  case atStart=>exact⟨0,[],by omega,Kz rfl,sO.o.trans k4.o,uz.o,Kz (fun b hb=>.inl (ownB hb).symm),le_refl _,q9.o.gr k4.o,rfl⟩
  case round=>
   obtain⟨k,fps,hk,HF,hg,aj,HV,ak,hown,rfl⟩:=hrel
   rename World=>W3
   have J:=Kz hg;have HO:=Kz hown;have au:=Kz aj;obtain⟨ra,A7,U⟩:=hown.form;obtain⟨M,hM⟩:=nm ((L.take k).flatMap (KI t0))
   have BM:M.length≤1048577:=by
    have:=ES t0 (L.take k);rw[←hM,List.length_take] at this;omega
   rw[←hM] at U;have q:=Kz hM;have y1:=cK _ hg;have EB:=blk y1;subst U;clear hg hown hM
   by_cases fe:k<L.length
   ·obtain⟨c,hc⟩:=nm (L[k])
    have cL:=(aj.fQ fe).1;rw[←hc] at cL;have fu:(L.take (k+1)).flatMap (KI t0)=M++KI t0 c:=by rw[List.take_succ_eq_append_getElem fe,List.flatMap_append,←q.o,←hc];simp
    have gD:=Kz fu;have j0:(0:Int)≤(k:Int):=by omega
    clear hc fu aj
    by_cases hc:0≤c∧c≤(t0.length:Int) - 1
    ·obtain⟨n,rfl⟩:∃n:Nat,c=n:=⟨c.toNat,by omega⟩
     have D:n<t0.length:=by omega
     have HC:=Kz hc;have ax:=T.trans J.o;have ay:=Kz ax;clear ky lq oH o5 o9 bR dB;obtain⟨p0,p1,p2,p3,p4,p5,E5,FX,F4,F5,ve,F6,gF,vB,vD,vF,vG,vL,x9,yc,F8,Ha,He,HY,H5,IV,KX⟩:=KZ X D ax;have vO:=Kz gF;have K3:(0:Int)≤(n:Int):=by omega
     have K4:(n:Int)<(t0.length:Int):=by omega
     have aZ:KI t0 (n:Int)=[p0]:=by rw[wo D,←ve.o]
     have bg:=Kz aZ;clear aZ ax gF vB vD vF vG vL hc;go_wp2_with fail;refine(gQ t0 _ _ (Rd.gr HT.o (tg ay)) HC.o.1 HC.o.2).mono ?_;rintro e w' ⟨rfl,x4,rfl⟩
     go_wp2_with (first|(at_builtin;refine eU (α:=Int) (wg:=B) (w0:=B) (tg J) (le_refl _) (tg J).size rfl _ _ 54 rfl 3 i0 (.int .i64 0) 8 Tryz.underlying54 K.o.1 K.o.2.1 K.o.2.2.1 K.o.2.2.2 rfl _ fps _ (by rfl) (HO.o.gr gd) _ [[]] [p0] (by rfl) (eT.one (by simp) (rO vO.o _)) (fun b _=>by simp) (by rw[←q.o];unfold maxLen;simp;omega) (by rw[←q.o];simp;omega) ?_;intro v3 w3 h1 h2 h3 h4;replace h1:=Kz h1;replace h2:=Kz h2;replace h3:=Kz h3;replace h4:=Kz h4))
     refine⟨⟨k+1,fps++[[]],by omega,Kz (by rw[List.flatten_append,HF.o];rfl),h4.o,?_,Kz (fun b hb=>?_),le_trans ak (le_trans (by simp<;>omega) h2.o.size),?_,by go_num⟩,by simp[intOf];omega⟩
     ·refine(au.o.gr gd).wr h2.o (fun b hb hm=>?_)
      have h5:=uf.o.2 b hb;have h6:=u6.o b hb;rcases HV.o b (by simpa using hm) with h|h<;>omega
     ·rcases h3.o with h|h
      ·exact HV.o b (h▸hb)
      ·rw[h] at hb
       obtain rfl:=Option.some.inj hb
       right;simp;omega
     ·rw[gD.o,bg.o,q.o]
      exact h1.o
    ·have I:c<0∨(t0.length:Int) - 1<c:=by omega
     have HC:=Kz I;have bg:=Kz (BK I);have ay:=Kz (T.trans J.o);clear I hc;go_wp2_with fail;refine(lH t0 _ _ (Rd.gr HT.o (tg ay)) HC.o).mono ?_;rintro e w' ⟨rfl,x4,rfl⟩;go_wp2_with fail;refine⟨⟨k+1,fps,by omega,HF,J.o.trans gd,au.o.gr gd,HV,le_trans ak (by simp),?_,by go_num⟩,by simp[intOf];omega⟩;rw[gD.o,bg.o,List.append_nil];have h1:=HO.o;rw[←q.o] at h1;exact h1.gr gd
   ·have vR:k=L.length:=by omega
    subst vR;have ah:=HO.o.fresh (by rw[←q.o];unfold bn;omega) (by rw[HF.o];exact aY.nil _);obtain⟨fq,hs,hf⟩:=ah;rw[←q.o] at hs;have HS:=Kz hs;have vX:=Kz (hf.of_le T.size);have hN:iB t0 (m:Int)=M:=by rw[q8.o,q.o,List.take_length]
    have HN:=Kz hN;clear hs hf hN;go_wp2_with fail;go_ret;exact⟨_,fq,rfl,by rw[HN.o];exact HS.o.gr gd,vX.o,T.trans (tg J)⟩
 ·have I:i<0∨(t0.length:Int) - 1<i:=by omega
  have HO:=Kz I;have HN:=Kz (BL I);clear I Y;go_in;go_wp2_with fail;refine(lH t0 _ _ (Rd.gr HT.o gd) HO.o).mono ?_;rintro e w' ⟨rfl,x1,rfl⟩;go_wp2_with fail;go_ret;exact⟨_,[],rfl,by rw[HN.o];exact⟨_,0,rfl,by simp,by simp,.inl ⟨rfl,rfl⟩⟩,aY.nil _,gd⟩
end Go.Proofs.YtleafadpfeibfaaGreat
