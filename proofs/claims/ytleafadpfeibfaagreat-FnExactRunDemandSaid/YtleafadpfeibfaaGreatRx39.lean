/- Contracts and laws towards ReadsOf, part 38 of 54. No condition. -/
import Derived.Laws.IdiomCopy
import Derived.Test.YtleafadpfeibfaaGreatRx35
import Derived.Test.YtleafadpfeibfaaGreatRx34
import Derived.Test.YtleafadpfeibfaaGreatRx30
set_option maxHeartbeats 32000000
set_option maxRecDepth 10000
set_option linter.unusedVariables false
set_option linter.unusedSimpArgs false
namespace Go.Proofs.YtleafadpfeibfaaGreat
open Go.RowKit
theorem Wr.setCells{fp:List Nat}{b:Nat}(hb:b∈fp)(vs:List Value):∀{a c:World} {o:Nat},Wr fp a c→Wr fp a (c.setCells b o vs):=by
 induction vs with
 |nil=>intro a c o h;exact h
 |cons v vs q=>intro a c o h;exact q (h.setCell hb v)
theorem SlR.iX{fp:List Nat}{w:World}{b off len cap:Nat}{xs:List av}(h:SlR fp w (.slice (some ⟨b,off,none⟩) len cap) xs){i:Nat}(hi:i<xs.length):
  w.cell? ⟨b,off+i*2,none⟩=some (.int .i64 xs[i].1)∧w.cell? ⟨b,off+i*2+1,none⟩=some (.string xs[i].2)∧(Lit.int .i64 xs[i].1).wf=true∧xs[i].2.size≤maxLen:=by
 obtain⟨cs,fq,hc,hr,-⟩:=h.at hi;obtain⟨y,B⟩:=nm (xs[i]);rw[←B] at hr ⊢;obtain⟨q0,q1⟩:=y;obtain⟨q,-,D,h1⟩:=bK (cs:=cs.toArray) q0 q1 (by simpa using hr);obtain rfl:=toL q;exact⟨by simpa[Rd.n] using hc 0 _ rfl,hc 1 _ rfl,D,h1⟩
theorem SlR.kR{fp:List Nat}{w:World}{b off len cap:Nat}{xs:List av}(h:SlR fp w (.slice (some ⟨b,off,none⟩) len cap) xs){i:Nat}(hi:i<xs.length*2):w.frozen? ⟨b,off+i,none⟩=false:=by
 obtain⟨a,cap,hv,h1,K,⟨rfl,rfl⟩|⟨O,D,fps,J,rfl,rfl,T,B,U⟩⟩:=h
 ·simp at hi
 ·injection hv with q V X
  injection q with q;injection q with q I _;subst q I;exact B i hi
theorem SlR.Jb{fp:List Nat}{w:World}{b off len cap:Nat}{xs:List av}(h:SlR fp w (.slice (some ⟨b,off,none⟩) len cap) xs)(hi:0<xs.length):fp=[b]:=by
 obtain⟨a,cap,hv,h1,U,⟨rfl,rfl⟩|⟨V,D,fps,O,rfl,rfl,X,T,I⟩⟩:=h
 ·simp at hi
 ·injection hv with q Y Z
  injection q with q;injection q with q J _;subst q J
  have:fps.flatten=[]:=by
   rw[List.flatten_eq_nil_iff];intro f K
   obtain⟨i,hi,rfl⟩:=List.mem_iff_getElem.1 K;obtain⟨_,_,B⟩:=I i (by omega) hi;exact mU nK nI _ _ _ _ B
  rw[this]
theorem SlR.EI{w:World}{b off cap:Nat}{xs:List av}(h:∀j (q:j<xs.length),w.cell? ⟨b,off+j*2,none⟩=some (.int .i64 xs[j].1)∧w.cell? ⟨b,off+j*2+1,none⟩=some (.string xs[j].2)∧(Lit.int .i64 xs[j].1).wf=true∧xs[j].2.size≤maxLen)
  (D:∀j,j<xs.length*2→w.frozen? ⟨b,off+j,none⟩=false) (hc:xs.length≤cap) (hr:xs.length≤bn):
  ∃fq,SlR fq w (.slice (some ⟨b,off,none⟩) xs.length cap) xs∧fq.Sublist [b]:=by
 by_cases B:xs=[]
 ·subst B
  exact⟨[],⟨_,cap,rfl,hc,hr,.inl ⟨rfl,rfl⟩⟩,by simp⟩
 ·refine⟨[b],⟨_,cap,rfl,hc,hr,.inr ⟨b,off,List.replicate xs.length [],B,rfl,by simp,by simp,fun j q=>D j q,fun i hi I=>?_⟩⟩,by simp⟩
  refine⟨[.int .i64 xs[i].1,.string xs[i].2],fun j v q=>?_,by simpa using bZ (w:=w) xs[i].1 xs[i].2 (h i hi).2.2.1 (h i hi).2.2.2⟩
  match j,q with
  |0,q=>obtain rfl:=Option.some.inj q;simpa[Rd.n] using(h i hi).1
  |1,q=>obtain rfl:=Option.some.inj q;exact(h i hi).2.1
section
variable{P:Program}
theorem vS(w:World)(t e ty:TypeId)(z:Value)(ht:P.underlying t=some (.slice e))(hv:∀w,(zeroValue e).run P w=.ok z w)(b o n c:Nat)(hn:0<n)(L:List Value)(hL:(Builtin.zeroCells z.cells n).toList=L)(h1:∀v∈L,v.oneCell'=true)
  (hc:∀j,j<L.length→(w.cell? ⟨b,o+j,none⟩).isSome=true) (q:∀j,j<L.length→w.frozen? ⟨b,o+j,none⟩=false):
  (Builtin.clear_ #[t] ty #[.slice (some ⟨b,o,none⟩) n c]).run P w=.ok (.tuple #[]) (w.setCells b o L):=by
 have h:=run_storeCells_cells (P:=P) b o L 0 w (by simpa using hc) (by simpa using q) h1;simp only[Nat.add_zero] at h;obtain⟨m,rfl⟩:∃m,n=m+1:=⟨n - 1,by omega⟩;simp[Builtin.clear_,run_underlying ht,hv,hL,h]
end
def l7(L:List av)(l:List Nat):List av:=l.map fun j=>L.getD j iN
theorem nz{α β:Type}(f:α→β){l:List α}{k:Nat}(x:α)(hk:k<l.length)(h:f x=f l[k]):(l.set k x).map f=l.map f:=by
 rw[List.map_set,h];apply List.ext_getElem (by simp);intro i h1 q
 rw[List.getElem_set]
 split
 ·subst_vars
  simp
 ·rfl
structure ImC(w0:World)(v0 v1 v2 v3:Value)(L:List av)(n bz bv bk bs br:Nat)(fp:List Nat)(s:Eng)(cyc:Bool)(W:World):Prop where
 gr:Gr w0 W
 hz:az W bz 85 [v0,v1,v2,v3,.slice (some ⟨bv,0,none⟩) n n,.slice (some ⟨bk,0,none⟩) n n,.slice (some ⟨bs,0,none⟩) n n,.slice (some ⟨br,0,none⟩) n n,.int .i64 s.steps,.bool cyc]
 hv:jZ W bv 3 s.vals
 hk:az W bk 4 (s.st.map fun x=>.bool (decide (x=2)))
 hs:az W bs 4 (s.st.map fun x=>.bool (decide (x=1)))
 hr:∃fps,bE (α:=gm w0.heap.size 45) w0 34 W (.slice (some ⟨br,0,none⟩) n n) fps (s.reads.map fun l=>gm.mk w0.heap.size 45 (l7 L l))∧fps.flatten.Nodup∧(∀b∈fps.flatten,w0.heap.size≤b)∧fp=[bz,bv,bk,bs,br]++fps.flatten
 nd:fp.Nodup
 ge:∀b∈fp,w0.heap.size≤b
 vl:s.vals.length=n
 sl:s.st.length=n
 rl:s.reads.length=n
 wf:∀x∈s.vals,(Lit.int .i64 x).wf=true
section
variable{w0:World}{v0 v1 v2 v3:Value}{L:List av}{n bz bv bk bs br:Nat}{fp:List Nat}{s:Eng}{cyc:Bool}{W W':World}
theorem ImC.grow(h:ImC w0 v0 v1 v2 v3 L n bz bv bk bs br fp s cyc W)(hg:Gr W W'):ImC w0 v0 v1 v2 v3 L n bz bv bk bs br fp s cyc W':=by
 obtain⟨fps,h1,q,B,D⟩:=h.hr;exact⟨h.gr.trans hg,h.hz.gr hg,az.gr h.hv hg,az.gr h.hk hg,az.gr h.hs hg,⟨fps,h1.gr hg,q,B,D⟩,h.nd,h.ge,h.vl,h.sl,h.rl,h.wf⟩
theorem ImC.lt(h:ImC w0 v0 v1 v2 v3 L n bz bv bk bs br fp s cyc W):∀b∈fp,b<W.heap.size:=by
 obtain⟨fps,h1,q,B,rfl⟩:=h.hr;intro b hb
 simp only[List.cons_append,List.nil_append,List.mem_cons] at hb;rcases hb with rfl|rfl|rfl|rfl|rfl|hb
 ·exact h.hz.lt
 ·exact h.hv.lt
 ·exact h.hk.lt
 ·exact h.hs.lt
 ·exact(h1.base b rfl).2
 ·exact h1.lt b hb
theorem ImC.mem(h:ImC w0 v0 v1 v2 v3 L n bz bv bk bs br fp s cyc W):bz∈fp∧bv∈fp∧bk∈fp∧bs∈fp∧br∈fp:=by
 obtain⟨fps,h1,q,B,rfl⟩:=h.hr;simp
theorem ImC.apart(h:ImC w0 v0 v1 v2 v3 L n bz bv bk bs br fp s cyc W):(bz≠bv∧bz≠bk∧bz≠bs∧bz≠br)∧(bv≠bk∧bv≠bs∧bv≠br)∧(bk≠bs∧bk≠br)∧bs≠br:=by
 obtain⟨fps,h1,q,B,rfl⟩:=h.hr;have hn:=h.nd;simp only[List.cons_append,List.nil_append,List.nodup_cons,List.mem_cons,not_or] at hn;exact⟨⟨hn.1.1,hn.1.2.1,hn.1.2.2.1,hn.1.2.2.2.1⟩,⟨hn.2.1.1,hn.2.1.2.1,hn.2.1.2.2.1⟩,⟨hn.2.2.1.1,hn.2.2.1.2.1⟩,hn.2.2.2.1.1⟩
theorem ImC.lV(h:ImC w0 v0 v1 v2 v3 L n bz bv bk bs br fp s cyc W){b:Nat}(hb:b=bz∨b=bv∨b=bk∨b=bs)(hw:Wr [b] W W'):
  ∃fps,bE (α:=gm w0.heap.size 45) w0 34 W' (.slice (some ⟨br,0,none⟩) n n) fps (s.reads.map fun l=>gm.mk w0.heap.size 45 (l7 L l))∧fps.flatten.Nodup∧(∀b∈fps.flatten,w0.heap.size≤b)∧fp=[bz,bv,bk,bs,br]++fps.flatten:=by
 obtain⟨fps,h1,D,I,B⟩:=h.hr;have q:=h.apart;have hn:=h.nd;rw[B] at hn;simp only[List.cons_append,List.nil_append,List.nodup_cons,List.mem_cons,not_or] at hn;refine⟨fps,h1.wr hw (fun c hc hm=>?_) (fun c hc hm=>?_),D,I,B⟩
 ·have e:=List.mem_singleton.1 hm
  subst e;rcases hb with rfl|rfl|rfl|rfl
  ·exact hn.1.2.2.2.2 hc
  ·exact hn.2.1.2.2.2 hc
  ·exact hn.2.2.1.2.2 hc
  ·exact hn.2.2.2.1.2 hc
 ·injection hc with hc
  have e:=List.mem_singleton.1 hm;simp only at hc;rcases hb with rfl|rfl|rfl|rfl
  ·exact q.1.2.2.2 (by omega)
  ·exact q.2.1.2.2 (by omega)
  ·exact q.2.2.1.2 (by omega)
  ·exact q.2.2.2 (by omega)
theorem ImC.setCell(h:ImC w0 v0 v1 v2 v3 L n bz bv bk bs br fp s cyc W){b:Nat}(hb:b∈fp)(o:Nat)(u:Value):MvW fp W fp (W.setCell ⟨b,o,none⟩ u):=
 ⟨(Wr.refl _ _).setCell hb u,fun c hc=>.inl hc⟩
theorem ImC.oo(h:ImC w0 v0 v1 v2 v3 L n bz bv bk bs br fp s cyc W){b:Nat}(hb:b∈fp)(o:Nat)(u:Value):Gr w0 (W.setCell ⟨b,o,none⟩ u):=Gr.setCell h.gr (h.ge b hb) u
theorem ImC.sG(h:ImC w0 v0 v1 v2 v3 L n bz bv bk bs br fp s cyc W){k:Nat}(hk:k<n)(hs:s.st.getD k 0≠2)(x:Bool):ImC w0 v0 v1 v2 v3 L n bz bv bk bs br fp {s with st:=s.st.set k (if x then 1 else 0)} cyc (W.setCell ⟨bs,k,none⟩ (.bool x)):=by
 have B:=h.apart;have q:k<s.st.length:=by rw[h.sl];exact hk
 rw[getD_at q] at hs;refine⟨h.oo h.mem.2.2.2.1 _ _,h.hz.ne B.1.2.2.1,az.ne h.hv B.2.1.2.1,?_,?_,h.lV (.inr (.inr (.inr rfl))) ((Wr.refl _ _).setCell (by simp) _),h.nd,h.ge,h.vl,by simpa using h.sl,h.rl,h.wf⟩
 ·have e:=nz (fun x=>Value.bool (decide (x=2))) (l:=s.st) (if x then 1 else 0) q (by cases x<;>simp[hs])
  simp only at e ⊢;rw[e];exact az.ne h.hk B.2.2.1.1
 ·have:=h.hs.set k (.bool x)
  simp only;rw[List.map_set,show Value.bool (decide ((if x then 1 else 0)=1))=.bool x by cases x<;>rfl];exact this
theorem ImC.Hy(h:ImC w0 v0 v1 v2 v3 L n bz bv bk bs br fp s cyc W){k:Nat}(hk:k<n):∃I,ImC w0 v0 v1 v2 v3 L n bz bv bk bs br fp I cyc (W.setCell ⟨bs,k,none⟩ (.bool false)):=by
 by_cases B:s.st.getD k 0=2
 ·have D:=h.apart
  have q:k<s.st.length:=by rw[h.sl];exact hk
  rw[getD_at q] at B;refine⟨s,h.oo h.mem.2.2.2.1 _ _,h.hz.ne D.1.2.2.1,az.ne h.hv D.2.1.2.1,az.ne h.hk D.2.2.1.1,?_,h.lV (.inr (.inr (.inr rfl))) ((Wr.refl _ _).setCell (by simp) _),h.nd,h.ge,h.vl,h.sl,h.rl,h.wf⟩;have:=h.hs.set k (.bool false);have e:=nz (fun x=>Value.bool (decide (x=1))) (l:=s.st) 2 q (by rw[B]);rw[List.map_set] at e;rw[←e];exact this
 ·exact⟨_,h.sG hk B false⟩
theorem ImC.CG(h:ImC w0 v0 v1 v2 v3 L n bz bv bk bs br fp s cyc W){k:Nat}(hk:k<n)(hs:s.st.getD k 0≠1):ImC w0 v0 v1 v2 v3 L n bz bv bk bs br fp {s with st:=s.st.set k 2} cyc (W.setCell ⟨bk,k,none⟩ (.bool true)):=by
 have B:=h.apart;have q:k<s.st.length:=by rw[h.sl];exact hk
 rw[getD_at q] at hs;refine⟨h.oo h.mem.2.2.1 _ _,h.hz.ne B.1.2.1,az.ne h.hv B.2.1.1,?_,?_,h.lV (.inr (.inr (.inl rfl))) ((Wr.refl _ _).setCell (by simp) _),h.nd,h.ge,h.vl,by simpa using h.sl,h.rl,h.wf⟩
 ·have:=h.hk.set k (.bool true)
  simp only;rw[List.map_set];exact this
 ·have e:=nz (fun x=>Value.bool (decide (x=1))) (l:=s.st) 2 q (by simp[hs])
  simp only at e ⊢;rw[e];exact az.ne h.hs B.2.2.1.1.symm
theorem ImC.xS(h:ImC w0 v0 v1 v2 v3 L n bz bv bk bs br fp s cyc W)(k:Nat){x:Int}(D:(Lit.int .i64 x).wf=true):ImC w0 v0 v1 v2 v3 L n bz bv bk bs br fp {s with vals:=s.vals.set k x} cyc (W.setCell ⟨bv,k,none⟩ (.int .i64 x)):=by
 have q:=h.apart;refine⟨h.oo h.mem.2.1 _ _,h.hz.ne q.1.1,h.hv.set k x,az.ne h.hk q.2.1.1.symm,az.ne h.hs q.2.1.2.1.symm,h.lV (.inr (.inl rfl)) ((Wr.refl _ _).setCell (by simp) _),h.nd,h.ge,by simpa using h.vl,h.sl,h.rl,fun y B=>?_⟩;rcases List.mem_or_eq_of_mem_set B with B|rfl
 ·exact h.wf y B
 ·exact D
theorem ImC.wN(h:ImC w0 v0 v1 v2 v3 L n bz bv bk bs br fp s cyc W)(c:Bool):ImC w0 v0 v1 v2 v3 L n bz bv bk bs br fp s c (W.setCell ⟨bz,9,none⟩ (.bool c)):=by
 have q:=h.apart;exact⟨h.oo h.mem.1 _ _,h.hz.set 9 (.bool c),az.ne h.hv q.1.1.symm,az.ne h.hk q.1.2.1.symm,az.ne h.hs q.1.2.2.1.symm,h.lV (.inl rfl) ((Wr.refl _ _).setCell (by simp) _),h.nd,h.ge,h.vl,h.sl,h.rl,h.wf⟩
theorem ImC.oh(h:ImC w0 v0 v1 v2 v3 L n bz bv bk bs br fp s cyc W)(m:Int):ImC w0 v0 v1 v2 v3 L n bz bv bk bs br fp {s with steps:=m} cyc (W.setCell ⟨bz,8,none⟩ (.int .i64 m)):=by
 have q:=h.apart;exact⟨h.oo h.mem.1 _ _,h.hz.set 8 (.int .i64 m),az.ne h.hv q.1.1.symm,az.ne h.hk q.1.2.1.symm,az.ne h.hs q.1.2.2.1.symm,h.lV (.inl rfl) ((Wr.refl _ _).setCell (by simp) _),h.nd,h.ge,h.vl,h.sl,h.rl,h.wf⟩
theorem ImC.push(h:ImC w0 v0 v1 v2 v3 L n bz bv bk bs br fp s cyc W){j:Nat}(hj:j<n):
  ∃O J,W.cell? ⟨br,j,none⟩=some O∧W.frozen? ⟨br,j,none⟩=false∧bE (α:=av) w0 45 W O J (l7 L (s.reads.getD j []))∧J.flatten=[]∧(∀b∈O.ownBlock.toList,b≠bz∧b≠bv∧b≠bk∧b≠bs∧b≠br)∧
   ∀D v9 (k:Nat),Wr O.ownBlock.toList W D→Gr w0 D→bE (α:=av) w0 45 D v9 (J++[[]]) (l7 L (s.reads.getD j [])++[L.getD k iN])→(v9.ownBlock=O.ownBlock∨∃m,v9.ownBlock=some m∧W.heap.size≤m)→
    ∃fq,ImC w0 v0 v1 v2 v3 L n bz bv bk bs br fq {s with reads:=s.reads.set j (s.reads.getD j []++[k])} cyc (D.setCell ⟨br,j,none⟩ v9)∧MvW fp W fq (D.setCell ⟨br,j,none⟩ v9):=by
 have U:=h.lt;have V:=h.ge;have q:=h.apart;obtain⟨fps,h1,h2,h3,h4⟩:=h.hr;have hn:=h.nd;rw[h4] at hn U V;simp only[List.cons_append,List.nil_append,List.nodup_cons,List.mem_cons,not_or] at hn;have ae:j<(s.reads.map fun l=>gm.mk w0.heap.size 45 (l7 L l)).length:=by simpa[h.rl] using hj
 obtain⟨g,cap,O,J,hv,bq,bB,hcap,hc,hf,hO,ah,ai,hsub,aj⟩:=h1.Ke h2 h3 ae;injection hv with X e2 e3;injection X with X;injection X with X _ _;subst X;have ak:j<s.reads.length:=by rw[h.rl];exact hj
 have au:((s.reads.map fun l=>gm.mk w0.heap.size 45 (l7 L l))[j]).o=l7 L (s.reads.getD j []):=by
  rw[List.getElem_map]
  show l7 L (s.reads[j])=_
  rw[getD_at ak]
 rw[au] at hO;refine⟨O,J,hc,hf,hO,ah,fun b hb=>⟨fun e=>?_,fun e=>?_,fun e=>?_,fun e=>?_,fun e=>?_⟩,fun D v9 k hw ax ay Z=>?_⟩
 ·subst e;exact hn.1.2.2.2.2 (hsub _ hb)
 ·subst e;exact hn.2.1.2.2.2 (hsub _ hb)
 ·subst e;exact hn.2.2.1.2.2 (hsub _ hb)
 ·subst e;exact hn.2.2.2.1.2 (hsub _ hb)
 ·subst e;exact ai hb
 ·obtain⟨I,k1,k2,k3,k4⟩:=aj D v9 _ hw ay Z
  have hnew:∀b∈I.flatten,b∈fps.flatten∨W.heap.size≤b:=fun b hb=>by
   rcases k4 b hb with B|B
   ·exact .inl B
   ·rcases Z with e9|⟨m,e9,hm⟩
    ·rw[e9] at B;exact .inl (hsub b B)
    ·rw[e9] at B
     simp at B;subst B;exact .inr hm
  have K:∀c,c∈[bz,bv,bk,bs,br]→c∉fps.flatten→c∉I.flatten:=fun c hc Y hm=>by
   rcases hnew c hm with B|B
   ·exact Y B
   ·have:=U c (List.mem_append_left _ hc);omega
  have aZ:Wr fp W (D.setCell ⟨br,j,none⟩ v9):=by
   rw[h4];refine(hw.sub fun c hc=>List.mem_append_right _ (hsub c hc)).trans ((Wr.refl _ _).setCell (by simp) _)
  have T:∀c,c∈[bz,bv,bk,bs]→c∉fps.flatten→c≠br→(D.setCell ⟨br,j,none⟩ v9).heap[c]?=W.heap[c]?:=fun c hc Y bg=>by
   rw[heap_setCell bg];exact hw.block c (U c (List.mem_append_left _ (by simp only[List.mem_cons,List.not_mem_nil,or_false] at hc ⊢;rcases hc with rfl|rfl|rfl|rfl<;>simp))) (fun hm=>Y (hsub c hm))
  refine⟨[bz,bv,bk,bs,br]++I.flatten,⟨Gr.setCell ax (V _ (by simp)) _,h.hz.keep (T bz (by simp) hn.1.2.2.2.2 q.1.2.2.2),az.keep h.hv (T bv (by simp) hn.2.1.2.2.2 q.2.1.2.2),az.keep h.hk (T bk (by simp) hn.2.2.1.2.2 q.2.2.1.2),az.keep h.hs (T bs (by simp) hn.2.2.2.1.2 q.2.2.2),⟨I,?_,k2,k3,rfl⟩,?_,?_,h.vl,h.sl,by simpa using h.rl,h.wf⟩,aZ,fun b hb=>?_⟩
  ·have e5:(s.reads.set j (s.reads.getD j []++[k])).map (fun l=>gm.mk w0.heap.size 45 (l7 L l))=(s.reads.map fun l=>gm.mk w0.heap.size 45 (l7 L l)).set j (gm.mk w0.heap.size 45 (l7 L (s.reads.getD j [])++[L.getD k iN])):=by
    rw[List.map_set];unfold l7;rw[List.map_append];rfl
   rw[e5];exact k1
  ·simp only[List.cons_append,List.nil_append,List.nodup_cons,List.mem_cons,not_or]
   exact⟨⟨q.1.1,q.1.2.1,q.1.2.2.1,q.1.2.2.2,K bz (by simp) hn.1.2.2.2.2⟩,⟨q.2.1.1,q.2.1.2.1,q.2.1.2.2,K bv (by simp) hn.2.1.2.2.2⟩,⟨q.2.2.1.1,q.2.2.1.2,K bk (by simp) hn.2.2.1.2.2⟩,⟨q.2.2.2,K bs (by simp) hn.2.2.2.1.2⟩,K br (by simp) hn.2.2.2.2.1,k2⟩
  ·intro b hb
   rcases List.mem_append.1 hb with hb|hb
   ·exact V b (List.mem_append_left _ hb)
   ·exact k3 b hb
  ·rw[h4]
   rcases List.mem_append.1 hb with hb|hb
   ·exact .inl (List.mem_append_left _ hb)
   ·exact(hnew b hb).imp (List.mem_append_right _) id
end
end Go.Proofs.YtleafadpfeibfaaGreat
namespace Go.Proofs.YtleafadpfeibfaaGreat
open Go.RowKit
variable{d:Nat}
theorem yN{fg ft fo:List Nat}{cg ct co:Array Value}(g:af d)(t:List aT)(m:Nat)(o:ag)(w:World)(hg:Rd.rd fg w cg.toList g)(ht:Rd.rd ft w ct.toList t)(ho:Rd.rd fo w co.toList o)(hm:m<t.length):
  Calls Tryz.prog 145 #[.agg cg,.agg ct,.int .i64 (m:Int),.agg co] w (Found [] w (KF t (m:Int) o) iN):=by
 obtain⟨g0,g1,ag0,kg0,vR,ag1,kg1,vX,rfl,rfl,-,wF,q9,sO,w9,uf,uo⟩:=yt hg;clear hg;have HT:=Kz ht;obtain⟨t0,xc,au,x9,rfl,rfl,-,ai,uq,uz⟩:=K8 ht;have bH:=ai.op3;clear ht;obtain⟨h,q,rfl,rfl,-,yc,ax⟩:=KT ho;clear ho;have I:m<t0.length:=hm;obtain⟨b,off,rfl,yu⟩:=bH m I;obtain⟨q0,q1,q2,q3,q4,q5,y5,y7,y8,y9,U,za,ay,bX,cB,cK,cO,aj,ve,vB,dB,zb,ze,zf,zg,dS,zl⟩:=KZ ai I (Gr.refl _);have bR:=aj.op3;have dV:=Kz aj;have fe:=Kz ay;have aZ:=Kz ax;have m0:(0:Int)≤(m:Int):=by omega
 have m1:(m:Int)≤(t0.length:Int) - 1:=by omega
 have m2:(m:Int)<(t0.length:Int):=by omega
 clear hm ay bX cB cK cO aj ax;go_in;go_wp2_with fail;generalize hB:((((w.alloc (.cells #[.slice ag0 g0.length kg0,.slice ag1 g1.length kg1] 39)).alloc (.cells #[.slice (some ⟨b,off,none⟩) t0.length au] 43)).alloc (.cells #[.int .i64 h,.string q] 181)).alloc (.cells #[.int .i64 0,.string ⟨#[]⟩] 45))=B;have J:Gr w B:=gb hB;have fu:=kb hB (w.heap.size+1) 0 (.slice (some ⟨b,off,none⟩) t0.length au);obtain⟨gD,gT⟩:=kb2 hB (w.heap.size+2) (.int .i64 h) (.string q);have EB:=Kz hB;clear hB;have V:Ky (az B (w.heap.size+1+1+1) 45 [.int .i64 0,.string ⟨#[]⟩]):=Kz (by rw[←EB.o];exact az.new (by simp));have y0:=fu _ (Gr.refl _);have y1:=gD _ (Gr.refl _);have y2:=gT _ (Gr.refl _);have zn:=blk y0;have zo:=blk y1;have gV:=J.keep dB;have zq:=J.keep dS;have zx:=blk gV;have hv:=V.o;obtain⟨u0,u1⟩:=hv.c2;have r0:=hv.frozen;have zu:=blk u0;clear hv;refine(gQ t0 (m:Int) _ (Rd.gr HT.o (J.trans gd)) (by omega) (by omega)).mono ?_;rintro e w' ⟨rfl,x0,rfl⟩;rcases(show h=0∨(0<h∧h≤(q5.length:Int))∨(h<0∨(q5.length:Int)<h) by omega) with h0|h0|h0
 ·have D:=Kz (show KF t0 (m:Int) (h,q)=some (q0,q) by rw[h0,Ag I,←U.o])
  have ak:=Kz (fun W=>bZ (w:=W) q0 q fe.o aZ.o);have bg:(h !=0)=false:=by simp[h0]
  clear h0;go_wp2_with fail;refine(gQ t0 (m:Int) _ (Rd.gr HT.o (J.trans gd)) (by omega) (by omega)).mono ?_;rintro e w' ⟨rfl,x1,rfl⟩;go_wp2_with fail
  go_region
  all_goals
   go_wp2_with fail;generalize K:(B.setCell ⟨w.heap.size+1+1+1,0,none⟩ (.int .i64 q0)).setCell ⟨w.heap.size+1+1+1,1,none⟩ (.string q)=WF;have X:az WF (w.heap.size+1+1+1) 45 [.int .i64 q0,.string q]:=by rw[←K];exact az.nR V.o _ _
   have Y:Gr w WF:=by rw[←K];exact Gr.nR J (by omega) _ _
   have Z:az ((WF.ext x0).ext x1) (w.heap.size+1+1+1) 45 [.int .i64 q0,.string q]:=X.gr gd;obtain⟨O,T⟩:=Z.c2;exact bodyPost_ret (v:=.tuple #[.agg #[.int .i64 q0,.string q],.bool true]) (by simp[results,Tryz.results145,go_sem,O,T]) rfl ⟨_,_,by rw[D.o];rfl,by rw[D.o];exact ak.o _,by simp,Y.trans gd⟩
 ·obtain⟨j,hj⟩:∃j:Nat,h=(j:Int)+1:=⟨(h - 1).toNat,by omega⟩
  have ah:j<q5.length:=by omega
  obtain⟨c,hc⟩:=nm (q5[j]);obtain⟨bL,oL,rfl,zy⟩:=bR j ah;have cL:=(dV.o.fQ ah).1;rw[←hc] at cL;have gX:h - 1=(j:Int):=by omega
  have j0:(0:Int)≤(j:Int):=by omega
  have j1:(j:Int)<(q5.length:Int):=by omega
  have zH:IntKind.i64.wrap (h - 1)=(j:Int):=by rw[gX];exact IntWalk.i64_in _ (by omega)
  have bg:(h !=0)=true:=by simp;omega
  have HC:=Kz hc;have HJ:=Kz hj;clear hc hj
  by_cases ik:0≤c∧c≤(t0.length:Int) - 1
  ·obtain⟨n,rfl⟩:∃n:Nat,c=n:=⟨c.toNat,by omega⟩
   have hn:n<t0.length:=by omega
   have ae:=Kz (show KF t0 (m:Int) (h,q)=some (t0[n].1,q) from zW I HJ.o (by rw[←U.o];exact ah) (by simp only[←U.o];exact HC.o.symm) hn);have I:=hn;have iw:Gr w w:=Gr.refl w;obtain⟨p0,p1,p2,p3,p4,p5,zL,zO,z8,A7,kr,BM,bq,ku,ky,lq,oH,o5,vD,vO,o9,E5,FX,F4,F5,F6,F8⟩:=KZ ai I iw;have qb:=Kz bq;rw[←kr.o] at ae;have D:=ae;have ak:=Kz (fun W=>bZ (w:=W) p0 q qb.o aZ.o);have n0:(0:Int)≤(n:Int):=by omega
   have n1:(n:Int)≤(t0.length:Int) - 1:=by omega
   have n2:(n:Int)<(t0.length:Int):=by omega
   clear bq ku ky lq oH o5 ae;have wL:Gr w B:=J;have vL:=wL.keep cL;have q8:=blk vL;have Ha:=wL.keep o9;go_wp2_with fail;refine wg ?_
   iterate 11 (go_big_quiet_step (first|(go_at_call 137;first|exact aG (kC _ _ _ _ (by omega) (by omega))|exact aG (mX _ _ _ _ (by omega)))))
   refine wq fun nx=>?_
   go_wp2_with fail
   go_region
   all_goals
    go_wp2_with fail;refine(gQ t0 (n:Int) _ (Rd.gr HT.o (J.trans gd)) (by omega) (by omega)).mono ?_;rintro e w' ⟨rfl,x1,rfl⟩;go_wp2_with fail
    go_region
    all_goals
     go_wp2_with fail;generalize K:(B.setCell ⟨w.heap.size+1+1+1,0,none⟩ (.int .i64 p0)).setCell ⟨w.heap.size+1+1+1,1,none⟩ (.string q)=WF;have X:az WF (w.heap.size+1+1+1) 45 [.int .i64 p0,.string q]:=by rw[←K];exact az.nR V.o _ _
     have Y:Gr w WF:=by rw[←K];exact Gr.nR J (by omega) _ _
     have Z:az (((WF.ext x0).ext nx).drew.ext x1) (w.heap.size+1+1+1) 45 [.int .i64 p0,.string q]:=X.gr gd;obtain⟨O,T⟩:=Z.c2;exact bodyPost_ret (v:=.tuple #[.agg #[.int .i64 p0,.string q],.bool true]) (by simp[results,Tryz.results145,go_sem,O,T]) rfl ⟨_,_,by rw[D.o];rfl,by rw[D.o];exact ak.o _,by simp,Y.trans gd⟩
  ·have D:=Kz (show KF t0 (m:Int) (h,q)=none from qN I HJ.o (by rw[←U.o];exact ah) (by simp only[←U.o,←HC.o];omega))
   have bB:c<0∨(t0.length:Int) - 1<c:=by omega
   clear ik;have wL:Gr w B:=J;have vL:=wL.keep cL;have q8:=blk vL;go_wp2_with fail;refine wg ?_
   iterate 11 (go_big_quiet_step (first|(go_at_call 137;first|exact aG (kC _ _ _ _ (by omega) (by omega))|exact aG (mX _ _ _ _ (by omega)))))
   refine wq fun nx=>?_
   go_wp2_with fail
   go_region
   all_goals
    go_wp2_with fail;refine(lH t0 c _ (Rd.gr HT.o (J.trans gd)) bB).mono ?_;rintro e w' ⟨rfl,x1,rfl⟩;go_wp2_with fail;generalize K:(B.setCell ⟨w.heap.size+1+1+1,0,none⟩ (.int .i64 0)).setCell ⟨w.heap.size+1+1+1,1,none⟩ (.string ⟨#[]⟩)=WF;have X:az WF (w.heap.size+1+1+1) 45 [.int .i64 0,.string ⟨#[]⟩]:=by rw[←K];exact az.nR V.o _ _
    have Y:Gr w WF:=by rw[←K];exact Gr.nR J (by omega) _ _
    have Z:az (((WF.ext x0).ext nx).drew.ext x1) (w.heap.size+1+1+1) 45 [.int .i64 0,.string ⟨#[]⟩]:=X.gr gd;obtain⟨O,T⟩:=Z.c2;exact bodyPost_ret (v:=.tuple #[.agg #[.int .i64 0,.string ⟨#[]⟩],.bool false]) (by simp[results,Tryz.results145,go_sem,O,T]) rfl ⟨_,_,by rw[D.o];rfl,by rw[D.o];exact rD _,by simp,Y.trans gd⟩
 ·have D:=Kz (show KF t0 (m:Int) (h,q)=none from zF I (by rw[←U.o];exact h0))
  have bg:(h !=0)=true:=by simp;omega
  have bB:h<1∨(q5.length:Int)<h:=by omega
  go_wp2_with fail;refine wg ?_
  iterate 11 (go_big_quiet_step (first|(go_at_call 137;first|exact aG (kC _ _ _ _ (by omega) (by omega))|exact aG (mX _ _ _ _ (by omega)))))
  refine wq fun nx=>?_
  go_wp2_with fail;generalize K:(B.setCell ⟨w.heap.size+1+1+1,0,none⟩ (.int .i64 0)).setCell ⟨w.heap.size+1+1+1,1,none⟩ (.string ⟨#[]⟩)=WF;have X:az WF (w.heap.size+1+1+1) 45 [.int .i64 0,.string ⟨#[]⟩]:=by rw[←K];exact az.nR V.o _ _
  have Y:Gr w WF:=by rw[←K];exact Gr.nR J (by omega) _ _
  have Z:az ((WF.ext x0).ext nx) (w.heap.size+1+1+1) 45 [.int .i64 0,.string ⟨#[]⟩]:=X.gr gd;obtain⟨O,T⟩:=Z.c2;exact bodyPost_ret (v:=.tuple #[.agg #[.int .i64 0,.string ⟨#[]⟩],.bool false]) (by simp[results,Tryz.results145,go_sem,O,T]) rfl ⟨_,_,by rw[D.o];rfl,by rw[D.o];exact rD _,by simp,Y.trans gd⟩
theorem DT{fp:List Nat}{cs:Array Value}(x:aX d)(o:ag)(b:Nat)(w:World)(O:Rd.rd fp w cs.toList x)(K:w.cell? ⟨b,0,none⟩=some (.int .i64 o.1))(T:w.cell? ⟨b,1,none⟩=some (.string o.2)):
  Qz 220 #[.agg cs,.pointer (some ⟨b,0,none⟩)] w (.bool (decide (x.1=o))):=by
 obtain⟨q,h,bg,bq,bB,bH,bL,bR,bX,X,Y,Z,rfl,rfl,-,ae,ah,ai,aj,ak,au,ax,ay,aZ,U,V⟩:=Ll O;clear O;obtain⟨J,D⟩:=o;have cB:=blk K;simp only at K T
 by_cases I:q=J
 ·by_cases h1:h=D
  ·have e0:(q==J)=true:=by simp[I]
   have e1:(h.toList==D.toList)=true:=by simp[h1]
   have B:=Kz (show decide ((q,h)=(J,D))=true by rw[I,h1];simp);subst I;subst h1;delta Qz;go_in;go_wp2_with fail;go_ret;exact⟨aa (by first|exact B.o.symm|rfl|(rw[B.o];simp)),gd⟩
  ·have hn:h.toList≠D.toList:=fun e=>h1 (str_inj e)
   have B:=Kz (show decide ((q,h)=(J,D))=false by simp[h1]);clear h1;subst I;delta Qz;go_in;go_wp2_with fail;go_ret;exact⟨aa (by first|exact B.o.symm|rfl|exact(decide_eq_false (fun e=>hn (congrArg ByteArray.toList e))).symm),gd⟩
 ·have B:=Kz (show decide ((q,h)=(J,D))=false by simp[I])
  delta Qz;go_in;go_wp2_with fail;go_ret;exact⟨aa (by first|exact B.o.symm|rfl|(rw[B.o];simp[I])),gd⟩
theorem DY{fp:List Nat}{cs:Array Value}(x:aX d)(o:ag)(b:Nat)(w:World)(O:Rd.rd fp w cs.toList x)(K:w.cell? ⟨b,0,none⟩=some (.int .i64 o.1))(T:w.cell? ⟨b,1,none⟩=some (.string o.2)):
  Qz 222 #[.agg cs,.pointer (some ⟨b,0,none⟩)] w (.bool (decide (x.1=o))):=by
 obtain⟨q,h,bg,bq,bB,bH,bL,bR,bX,X,Y,Z,rfl,rfl,-,ae,ah,ai,aj,ak,au,ax,ay,aZ,U,V⟩:=Ll O;clear O;obtain⟨J,D⟩:=o;have cB:=blk K;simp only at K T
 by_cases I:q=J
 ·by_cases h1:h=D
  ·have e0:(q==J)=true:=by simp[I]
   have e1:(h.toList==D.toList)=true:=by simp[h1]
   have B:=Kz (show decide ((q,h)=(J,D))=true by rw[I,h1];simp);subst I;subst h1;delta Qz;go_in;go_wp2_with fail;go_ret;exact⟨aa (by first|exact B.o.symm|rfl|(rw[B.o];simp)),gd⟩
  ·have hn:h.toList≠D.toList:=fun e=>h1 (str_inj e)
   have B:=Kz (show decide ((q,h)=(J,D))=false by simp[h1]);clear h1;subst I;delta Qz;go_in;go_wp2_with fail;go_ret;exact⟨aa (by first|exact B.o.symm|rfl|exact(decide_eq_false (fun e=>hn (congrArg ByteArray.toList e))).symm),gd⟩
 ·have B:=Kz (show decide ((q,h)=(J,D))=false by simp[I])
  delta Qz;go_in;go_wp2_with fail;go_ret;exact⟨aa (by first|exact B.o.symm|rfl|(rw[B.o];simp[I])),gd⟩
theorem any_eq{es:List (aX d)}{o:ag}:(es.any fun q=>decide (q.1=o))=pB (∃q∈es,q.1=o):=by
 rw[Bool.eq_iff_iff,dx,List.any_eq_true];constructor
 ·rintro⟨x,h1,h⟩;exact⟨x,h1,of_decide_eq_true h⟩
 ·rintro⟨x,h1,h⟩;exact⟨x,h1,decide_eq_true h⟩
theorem FU{fo:List Nat}{co:Array Value}(o:ag)(es:List (aX d)){Y:List Nat}{O:Value}(b:Nat)(w:World)(T:Rd.rd fo w co.toList o)(he:SlR Y w O es)(hb:w.cell? ⟨b,4,none⟩=some O):
  Qz 218 #[.agg co,.pointer (some ⟨b,0,none⟩)] w (.bool (!pB (∃q∈es,q.1=o))):=by
 obtain⟨D,I,rfl,rfl,-,ah,ai⟩:=KT T;clear T;have Z:=Kz he;obtain⟨ae,ke,rfl,-,-,-⟩:=he.open;have h:=blk hb;clear he;delta Qz;go_in;go_wp2_with fail;generalize K:w.alloc (.cells #[.int .i64 D,.string I] 181)=B;have U:Gr w B:=gb K;have V:=Kz (show az B w.heap.size 181 [.int .i64 D,.string I] from by rw[←K];exact az.new rfl);have J:=Kz U;clear K U
 have HT:=Kz (show TestEquation B 220 #[.pointer (some ⟨w.heap.size,0,none⟩)] (fun q=>decide (q.1=(D,I))) es from
  ⟨Tryz.call220,fun z _ x fp cs hr=>DT z (D,I) w.heap.size _ hr ((V.o.gr gd).c 0) ((V.o.gr gd).c 1)⟩)
 refine(jO _ _ es _ _ (fun q=>decide (q.1=(D,I))) _ (Z.o.gr J.o) HT.o).mono ?_;rintro e w' ⟨rfl,x2,rfl⟩;rw[any_eq];obtain⟨bb,h⟩:∃b:Bool,b=pB (∃q∈es,q.1=(D,I)):=⟨_,rfl⟩;rw[←h];have X:=Kz h;clear h;go_wp2_with fail;go_ret;exact⟨aa (by rw[X.o]),J.o.trans gd⟩
theorem uV{fg fr:List Nat}{cg cr:Array Value}(g:af d)(r:aW d)(w:World)(hg:Rd.rd fg w cg.toList g)(hr:Rd.rd fr w cr.toList r)(hl:aP g≤1048576)(V:bF r≤1048576):
  Qz 175 #[.agg cg,.agg cr] w (.bool (!pB (FL g r))):=by
 have aj:=Kz hl;have HG:=Kz hg;obtain⟨g0,g1,ag0,kg0,cK,ag1,kg1,cO,rfl,rfl,-,dB,ay,aZ,dS,bg,bq⟩:=yt hg;clear hg;have HR:=Kz hr;obtain⟨I,J,D,T,h,K,X,Y,dV,Z,ae,fe,ah,ai,fu,rfl,rfl,-,gD,gF,gT,bB,bH,ak,bL,bR,gV,bX,cB⟩:=KV hr;clear hr
 have au:D.length≤1048576:=by
  have h1:I.size+J.size+wtL ByteArray.size D+wtL aU h+wtL aI K≤1048576:=V;have h2:=bT ByteArray.size D;omega
 clear hl V;delta Qz;go_in;go_wp2_with fail;generalize hB:((w.alloc (.cells #[.slice ag0 g0.length kg0,.slice ag1 g1.length kg1] 39)).alloc (.cells #[.string I,.string J,.slice X D.length Y,.bool T,.slice Z h.length ae,.slice ah K.length ai] 128))=B;have gB:Gr w B:=gb hB;have VR:=Kz (show az B (w.heap.size+1) 128 [.string I,.string J,.slice X D.length Y,.bool T,.slice Z h.length ae,.slice ah K.length ai] from by rw[←hB];exact az.new (by simp));have O:=Kz gB;clear hB gB;refine(uQ (g0,g1) (I,J,D,T,h,K) _ (Rd.gr HG.o O.o) (Rd.gr HR.o O.o) aj.o au).mono ?_;rintro e w' ⟨v,fq,rfl,hs,hf,x1,rfl⟩;have HS:=Kz hs;obtain⟨aq,kq,rfl,-,-,-⟩:=hs.open;clear hs hf
 have HT:=Kz (show TestOccurrence (B.ext x1) 218 #[.pointer (some ⟨w.heap.size+1,0,none⟩)] (fun o=>!pB (∃q∈h,q.1=o)) (mg (g0,g1) (I,J,D,T,h,K)) from
  ⟨Tryz.call218,fun z _ x fp cs hz=>FU z h (w.heap.size+1) _ hz (ak.gr ((tg O).trans (gd:Gr (B.ext x1) _))) ((VR.o.gr ((gd:Gr B (B.ext x1)).trans gd)).c 4)⟩)
 go_wp2_with (first|(go_at_call 216;refine(jo _ _ (mg (g0,g1) (I,J,D,T,h,K)) _ _ (fun o=>!pB (∃q∈h,q.1=o)) _ (HS.o.gr gd) HT.o).mono ?_;rintro e w' ⟨rfl,x2,rfl⟩;rw[wu];obtain⟨bb,U⟩:∃b:Bool,b=pB (∀z∈mg (g0,g1) (I,J,D,T,h,K),∃q∈h,q.1=z):=⟨_,rfl⟩;rw[←U];have ax:=Kz U;clear U))
 go_ret;exact⟨aa (by rw[ax.o];rfl),O.o.trans gd⟩
theorem Tryz.Gj:(Tryz.prog.info? 3).map (fun i=>(i.zero,i.size,i.bytes))=some (some (.int .i64 0),1,8):=by kernel_rfl
def tyL(g:af d)(r:aW d)(q0 q1 q2 q3:Int)(q4 q5:ByteArray)(L:List Int):Int:=
 if q0=1 then q3 else if q0=2 then(if r.2.2.2.1 then 1 else 0) else if q0=3 then pO (jf g r (q2,q5))
 else if q0=4 then(match L with|[a,b]=>if a=(opT q1).1∧b=(opT q1).2.1 then(opT q1).2.2 else 0|_=>0)
 else if q0=5 then(match L with|[a,b,c]=>if a=3∧b=c then b else 0|_=>0)
 else if q0=6 then(if 0≤q2∧q2≤r.2.2.1.length then 4 else 0)
 else if q0=7 then 4
 else if q0=8 then(match L with|[a]=>if a=4 then xD g q4 q5 else 0|_=>0)
 else 0
theorem JU{n:Nat}(g:af d)(r:aW d)(q0 q1 q2 q3:Int)(q4 q5:ByteArray)(q6:List (GE n)):dZ g r (n+1) ((q0,q1,q2,q3,q4,q5,q6):aA n)=tyL g r q0 q1 q2 q3 q4 q5 (q6.map (dZ g r n)):=by
 match q6 with
 |[]=>rfl
 |[a]=>rfl
 |[a,b]=>rfl
 |[a,b,c]=>rfl
 |a::b::c::e::l=>rfl
def JC(g:af d)(r:aW d)(n:Nat):Prop:=∀(fg fr fx:List Nat) (cg cr cx:Array Value) (x:GE n) (w:World) (hg:Rd.rd fg w cg.toList g) (hr:Rd.rd fr w cr.toList r) (h:Rd.rd fx w cx.toList x) (q:wtE n x≤1048576),
 Calls Tryz.prog 179 #[.agg cg,.agg cr,.agg cx] w fun e w'=>e=.returned (.int .i64 (dZ g r n x))∧(Lit.int .i64 (dZ g r n x)).wf=true∧Gr w w'
theorem FD{n:Nat}{g:af d}{r:aW d}(q8:aP g≤1048576)(hE:JC g r n):JC g r (n+1):=by
 obtain⟨i0,hi⟩:=info_parts Tryz.Gj;have HZ:=Kz hi;clear hi;intro fg fr fx cg cr cx x w hg hr hx hl
 have HE:=Kz hE;clear hE q8;have HG:=Kz hg;obtain⟨g0,g1,ag0,kg0,FX,ag1,kg1,F4,rfl,rfl,-,F5,zo,zq,F6,zu,zx⟩:=yt hg;clear hg;have HR:=Kz hr;obtain⟨V,X,O,U,Y,Z,fe,fu,F8,gF,gT,Ha,gV,gX,He,rfl,rfl,-,HV,HY,H5,zy,zH,IV,zL,zO,KX,z8,A7⟩:=KV hr;clear hr;have HL:=Kz hl;clear hl;obtain⟨q0,q1,q2,q3,q4,q5,q6⟩:=(x:aA n);have hx:Rd.rd (α:=aA n) fx w cx.toList (q0,q1,q2,q3,q4,q5,q6):=hx;obtain⟨K3,K4,rfl,-,K6,La,q9,sO,Li,uf,ik⟩:=aF q0 q1 q2 q3 q4 q5 q6 hx;obtain⟨bH,bL,rfl,BM,EB,qb⟩:=ik.open;have uo:=Kz ik;clear hx
 have Lj:q6.length≤1048576:=by
  have h1:q4.size+q5.size+wtL (wtE n) q6≤1048576:=HL.o;have h2:=bT (wtE n) q6;omega
 obtain⟨J,ay⟩:=nm (dZ (g0,g1) (V,X,O,U,Y,Z) (n+1) ((q0,q1,q2,q3,q4,q5,q6):aA n))
 show Calls _ _ _ _ fun e w'=>e=.returned (.int .i64 (dZ (g0,g1) (V,X,O,U,Y,Z) (n+1) ((q0,q1,q2,q3,q4,q5,q6):aA n)))∧(Lit.int .i64 (dZ (g0,g1) (V,X,O,U,Y,Z) (n+1) ((q0,q1,q2,q3,q4,q5,q6):aA n))).wf=true∧Gr w w'
 rw[←ay];have bR:=Kz (ay.trans (JU (g0,g1) (V,X,O,U,Y,Z) q0 q1 q2 q3 q4 q5 q6));clear ay;go_in
 go_upto_region 3 with fail
 obtain⟨B0,ah⟩:=nm ((((w.alloc (.cells #[.slice ag0 g0.length kg0,.slice ag1 g1.length kg1] 39)).alloc (.cells #[.string V,.string X,.slice fe O.length fu,.bool U,.slice gF Y.length gT,.slice gV Z.length gX] 128)).alloc (.cells #[.int .i64 q0,.int .i64 q1,.int .i64 q2,.int .i64 q3,.string q4,.string q5,.slice bH q6.length bL] 165)));rw[←ah];have gB:Gr w B0:=by rw[ah];exact gd
 have VG:=Kz (show az B0 w.heap.size 39 [.slice ag0 g0.length kg0,.slice ag1 g1.length kg1] from by rw[ah];exact kv);have VR:=Kz (show az B0 (w.heap.size+1) 128 [.string V,.string X,.slice fe O.length fu,.bool U,.slice gF Y.length gT,.slice gV Z.length gX] from by rw[ah];exact kv);have VX:=Kz (show az B0 (w.heap.size+1+1) 165 [.int .i64 q0,.int .i64 q1,.int .i64 q2,.int .i64 q3,.string q4,.string q5,.slice bH q6.length bL] from by rw[ah];exact kv);have ai:=Kz (show az B0 (w.heap.size+2) 165 [.int .i64 q0,.int .i64 q1,.int .i64 q2,.int .i64 q3,.string q4,.string q5,.slice bH q6.length bL] from VX.o);have uq:=Kz gB;have bX:B0.heap.size=w.heap.size+3:=by rw[ah];simp
 have uz:=Kz bX;clear ah gB bX
 go_loopw [23,7] (fun cB s7 wr=>∃(k:Nat) (fps:List (List Nat)),k≤q6.length∧Ky (fps.flatten=[])∧Gr B0 wr∧bE (α:=Int) B0 3 wr s7 fps ((q6.take k).map (dZ (g0,g1) (V,X,O,U,Y,Z) n))∧cB=.int .i64 k) (fun cB _ _=>q6.length - (intOf cB).toNat)
 case atStart=>exact⟨0,[],by omega,Kz rfl,gd,bE.kF (α:=Int) (w0:=B0) (w:=B0) 3 (Nat.le_refl _) (by first|rfl|(have:=uz.o;omega)),rfl⟩
 case round=>
  obtain⟨k,fps,hk,q,aZ,hown,rfl⟩:=hrel
  rename World=>W1
  have B:=Kz aZ;have HO:=Kz hown;obtain⟨L,hL⟩:=nm ((q6.take k).map (dZ (g0,g1) (V,X,O,U,Y,Z) n));have ve:L.length=k:=by rw[hL];simp;omega
  have Lm:L.length≤1048576:=by omega
  clear ve;obtain⟨ra,rc,bg⟩:=hown.form;rw[←hL] at bg;subst bg;have ae:=Kz hL;have I:=Kz (uq.o.trans aZ);clear hown hL;have vB:=(VG.o.gr B.o).c 0;have Ls:=(VG.o.gr B.o).c 1;have Lv:=blk vB;have vD:=(VR.o.gr B.o).c 0;have Lx:=(VR.o.gr B.o).c 1;have LA:=(VR.o.gr B.o).c 2;have LB:=(VR.o.gr B.o).c 3;have LC:=(VR.o.gr B.o).c 4;have LD:=(VR.o.gr B.o).c 5;have LF:=blk vD;have vF:=(VX.o.gr B.o).c 0;have LG:=(VX.o.gr B.o).c 1;have LH:=(VX.o.gr B.o).c 2;have LJ:=(VX.o.gr B.o).c 3;have LK:=(VX.o.gr B.o).c 4;have cK:=(VX.o.gr B.o).c 5;have LM:=(VX.o.gr B.o).c 6;have vG:=blk vF;have LP:=(ai.o.gr B.o).c 0;have LQ:=(ai.o.gr B.o).c 1;have LU:=(ai.o.gr B.o).c 2;have LV:=(ai.o.gr B.o).c 3;have LW:=(ai.o.gr B.o).c 4;have kr:=(ai.o.gr B.o).c 5;have LX:=(ai.o.gr B.o).c 6;clear aZ
  by_cases bq:k<q6.length
  ·have ku:wtE n q6[k]≤1048576:=by
    have h1:q4.size+q5.size+wtL (wtE n) q6≤1048576:=HL.o;have h2:=dI (wtE n) q6 bq;omega
   have vL:=Kz ku;obtain⟨T,hT⟩:=nm (dZ (g0,g1) (V,X,O,U,Y,Z) n q6[k]);have vO:=Kz (show(q6.take (k+1)).map (dZ (g0,g1) (V,X,O,U,Y,Z) n)=L++[T] by rw[List.take_succ_eq_append_getElem bq,List.map_append,ae.o,hT];rfl);have HT:=Kz hT;clear ku hT
   obtain⟨d1,rfl⟩:∃e,n=e+1:=by
    cases n with
    |zero=>exact PEmpty.elim (q6[k])
    |succ e=>exact⟨e,rfl⟩
   obtain⟨b,off,rfl,hb⟩:=qb k bq;obtain⟨p0,p1,p2,p3,p4,p5,p6,LY,LZ,L6,L8,vR,vX,wF,wL,w9,xc,x9,yc,yu,-,-,z0,z1,z2,z3,z4,z5,z6,zb⟩:=Lc uo.o bq I.o;have k0:(0:Int)≤(k:Int):=by omega
   have k1:(k:Int)<(q6.length:Int):=by omega
   have iw:=zI1 k (by omega);clear wF wL w9 xc x9 yc yu;go_wp2_with fail;refine(HE.o _ _ _ _ _ _ q6[k] _ (Rd.gr HG.o (tg I)) (Rd.gr HR.o (tg I)) (Rd.gr (by rw[←vR.o];exact vX.o) (tg I)) vL.o).mono ?_;rintro e w' ⟨rfl,aj,x2,rfl⟩;rw[←HT.o] at aj ⊢;have y5:=Kz aj;clear aj
   go_wp2_with (first|(at_builtin;refine bP (α:=Int) (w0:=B0) (tg B) rfl _ _ 54 rfl 3 i0 (.int .i64 0) 8 Tryz.underlying54 HZ.o.1 HZ.o.2.1 HZ.o.2.2.1 HZ.o.2.2.2 rfl _ fps _ (by rfl) (HO.o.gr gd) _ [[]] [T] (by rfl) (eT.one (by simp) ⟨rfl,rfl,y5.o⟩) (fun b _=>by simp) (by rw[←ae.o];unfold maxLen;simp;omega) (by rw[←ae.o];simp;omega) ?_;intro v3 w3 h1 h2 h3 h4;replace h1:=Kz h1;replace h4:=Kz h4;clear h2 h3))
   refine⟨⟨k+1,fps++[[]],by omega,Kz (by rw[List.flatten_append,q.o];rfl),h4.o,?_,by go_num⟩,by simp[intOf];omega⟩;rw[vO.o,ae.o];exact h1.o
  ·obtain rfl:k=q6.length:=by omega
   obtain⟨fq,h1,h2⟩:=HO.o.fresh (by rw[←ae.o];unfold bn;omega) (by rw[q.o];exact aY.nil _);rw[←ae.o] at h1;have H1:=Kz h1;have K:=Kz (show J=tyL (g0,g1) (V,X,O,U,Y,Z) q0 q1 q2 q3 q4 q5 L by rw[bR.o,ae.o,List.take_length]);clear h1 h2 bR ae
   by_cases e1:q0=1
   ·subst e1
    have q:=Kz (show J=q3 from K.o);go_wp2_with fail;go_ret;exact⟨by rw[q.o];rfl,by rw[q.o];exact sO,I.o.trans gd⟩
   ·have n1:(q0==1)=false:=by simpa using e1
    have E1:=Kz e1;clear e1
    by_cases e2:q0=2
    ·subst e2
     cases U with
     |true=>
      have q:=Kz (show J=1 from K.o);go_wp2_with fail;go_ret;exact⟨by rw[q.o];rfl,by rw[q.o];decide,I.o.trans gd⟩
     |false=>
      have q:=Kz (show J=0 from K.o);go_wp2_with fail;go_ret;exact⟨by rw[q.o];rfl,by rw[q.o];decide,I.o.trans gd⟩
    ·have n2:(q0==2)=false:=by simpa using e2
     have E2:=Kz e2;clear e2
     by_cases e3:q0=3
     ·subst e3
      have q:=Kz (show J=pO (jf (g0,g1) (V,X,O,U,Y,Z) (q2,q5)) from K.o);go_wp2_with fail;refine(mM (g0,g1) (V,X,O,U,Y,Z) (q2,q5) _ (Rd.gr HG.o (tg I)) (Rd.gr HR.o (tg I)) (bO q2 q5 q9 uf)).mono ?_;rintro e w' ⟨es,cO,rfl,hr,-,x3,rfl⟩;have hr:Rd.rd cO (W1.ext x3) es.toList ((jf (g0,g1) (V,X,O,U,Y,Z) (q2,q5)).getD dR):=hr;obtain⟨A,hA⟩:=nm ((jf (g0,g1) (V,X,O,U,Y,Z) (q2,q5)).getD dR);rw[←hA] at hr;have HA:=Kz hA;obtain⟨t0,t1,t2,t3,rfl,rfl,-,y7,dB,y8⟩:=Ld hr;have ak:=Kz (show J=t1 by rw[q.o];unfold pO;rw[←HA.o]);clear hA hr;go_wp2_with fail;go_ret;exact⟨by rw[ak.o];rfl,by rw[ak.o];exact dB,I.o.trans gd⟩
     ·have n3:(q0==3)=false:=by simpa using e3
      have E3:=Kz e3;clear e3
      by_cases e4:q0=4
      ·subst e4
       by_cases hlen:L.length=2
       ·obtain⟨a,c,rfl⟩:∃a c,L=[a,c]:=by
         match L,hlen with
         |[a,c],_=>exact⟨a,c,rfl⟩
        clear hlen;obtain⟨ky,lq,he,-,-,o3⟩:=H1.o.open;injection he with au oH ax;subst au ax;obtain⟨b,off,rfl,hb⟩:=o3 0 (by simp);have c0:W1.cell? ⟨b,off,none⟩=some (.int .i64 a):=by simpa using(H1.o.fQ (i:=0) (by simp)).1
        have c1:W1.cell? ⟨b,off+1,none⟩=some (.int .i64 c):=by simpa using(H1.o.fQ (i:=1) (by simp)).1
        obtain⟨T,hT⟩:=nm (opT q1);have q:=Kz (show J=if a=T.1∧c=T.2.1 then T.2.2 else 0 by rw[hT];exact K.o)
        have aj:(Lit.int .i64 T.2.2).wf=true:=by
         rw[hT];unfold opT;repeat(first|decide|split)
        have HT:=Kz hT;obtain⟨T0,T1,T2⟩:=T;simp only at q aj;clear hT
        go_wp2_with (first|(go_at_call 184;refine(uO q1 _).mono ?_;rintro e w' ⟨rfl,x3,rfl⟩;rw[←HT.o]))
        go_ways
        all_goals
         go_ret;have HW:=Kz aj;refine⟨?_,?_,I.o.trans gd⟩
         ·rw[q.o];first|(simp_all;done)
         ·rw[q.o];split
          ·exact HW.o
          ·decide
       ·have oL:¬((L.length:Int)=2):=by omega
        have q:=Kz (show J=0 by
         rw[K.o]
         show(match L with|[a,b]=>_|_=>_)=_
         split
         ·simp at hlen
         ·rfl)
        clear hlen;go_wp2_with fail;go_ret;exact⟨by rw[q.o];rfl,by rw[q.o];decide,I.o.trans gd⟩
      ·have n4:(q0==4)=false:=by simpa using e4
       have E4:=Kz e4;clear e4
       by_cases e5:q0=5
       ·subst e5
        by_cases hlen:L.length=3
        ·obtain⟨a,c,f,rfl⟩:∃a c f,L=[a,c,f]:=by
          match L,hlen with
          |[a,c,f],_=>exact⟨a,c,f,rfl⟩
         clear hlen;obtain⟨ky,lq,he,-,-,o3⟩:=H1.o.open;injection he with au oH ax;subst au ax;obtain⟨b,off,rfl,hb⟩:=o3 0 (by simp);have c0:W1.cell? ⟨b,off,none⟩=some (.int .i64 a):=by simpa using(H1.o.fQ (i:=0) (by simp)).1
         have c1:W1.cell? ⟨b,off+1,none⟩=some (.int .i64 c):=by simpa using(H1.o.fQ (i:=1) (by simp)).1
         have c2:W1.cell? ⟨b,off+2,none⟩=some (.int .i64 f):=by simpa using(H1.o.fQ (i:=2) (by simp)).1
         have y9:(Lit.int .i64 c).wf=true:=by simpa using(H1.o.fQ (i:=1) (by simp)).2
         have q:=Kz (show J=if a=3∧c=f then c else 0 from K.o)
         by_cases h3:a=3
         ·subst h3
          by_cases bB:c=f
          ·subst bB
           have dS:(c==c)=true:=by simp
           go_wp2_with fail;refine wg ?_
           iterate 13 (go_big_quiet_step (fail))
           refine wq fun nx=>?_
           go_wp2_with fail;go_ret;exact⟨by rw[q.o];simp,by rw[q.o];simpa using y9,I.o.trans gd⟩
          ·have dS:(c==f)=false:=by simpa using bB
           go_wp2_with fail;refine wg ?_
           iterate 13 (go_big_quiet_step (fail))
           refine wq fun nx=>?_
           go_wp2_with fail;go_ret;exact⟨by rw[q.o];simp[bB],by rw[q.o,if_neg (fun h=>bB h.2)];decide,I.o.trans gd⟩
         ·have dS:(a==3)=false:=by simpa using h3
          go_wp2_with fail;refine wg ?_
          iterate 13 (go_big_quiet_step (fail))
          refine wq fun nx=>?_
          go_wp2_with fail;go_ret;exact⟨by rw[q.o];simp[h3],by rw[q.o,if_neg (fun h=>h3 h.1)];decide,I.o.trans gd⟩
        ·have oL:¬((L.length:Int)=3):=by omega
         have q:=Kz (show J=0 by
          rw[K.o]
          show(match L with|[a,b,c]=>_|_=>_)=_
          split
          ·simp at hlen
          ·rfl)
         clear hlen;go_wp2_with fail;go_ret;exact⟨by rw[q.o];rfl,by rw[q.o];decide,I.o.trans gd⟩
       ·have n5:(q0==5)=false:=by simpa using e5
        have E5:=Kz e5;clear e5
        by_cases e6:q0=6
        ·subst e6
         have q:=Kz (show J=if 0≤q2∧q2≤(O.length:Int) then 4 else 0 from K.o)
         go_wp2_with (first|(go_at_call 137;refine(di _ _ _ _).mono ?_;rintro e w' ⟨rfl,rfl⟩))
         go_ways
         all_goals
          go_ret;refine⟨?_,?_,I.o.trans gd⟩
          ·rw[q.o];first|(simp_all;done)|(simp_all;intros;omega)
          ·rw[q.o];split<;>decide
        ·have n6:(q0==6)=false:=by simpa using e6
         have E6:=Kz e6;clear e6
         by_cases e7:q0=7
         ·subst e7
          have q:=Kz (show J=4 from K.o);go_wp2_with fail;go_ret;exact⟨by rw[q.o];rfl,by rw[q.o];decide,I.o.trans gd⟩
         ·have n7:(q0==7)=false:=by simpa using e7
          have E7:=Kz e7;clear e7
          by_cases e8:q0=8
          ·subst e8
           by_cases hlen:L.length=1
           ·obtain⟨a,rfl⟩:∃a,L=[a]:=by
             match L,hlen with
             |[a],_=>exact⟨a,rfl⟩
            clear hlen;obtain⟨ky,lq,he,-,-,o3⟩:=H1.o.open;injection he with au oH ax;subst au ax;obtain⟨b,off,rfl,hb⟩:=o3 0 (by simp);have c0:W1.cell? ⟨b,off,none⟩=some (.int .i64 a):=by simpa using(H1.o.fQ (i:=0) (by simp)).1
            have q:=Kz (show J=if a=4 then xD (g0,g1) q4 q5 else 0 from K.o)
            by_cases h4:a=4
            ·subst h4
             go_wp2_with fail;refine(dY (g0,g1) q4 _ (Rd.gr HG.o (tg I))).mono ?_;rintro e w' ⟨es,cO,rfl,hr,-,x3,rfl⟩;have gD:Gr W1 (W1.ext x3):=gd;generalize W1.ext x3=D at hr gD ⊢;have hr:Rd.rd cO D es.toList ((bW g0 q4).getD dE):=hr;obtain⟨A,hA⟩:=nm ((bW g0 q4).getD dE);rw[←hA] at hr;have HA:=Kz hA;have za:=Kz hr;obtain⟨s0,s1,o5,o9,L9,rfl,rfl,-,bX,ze,-,-⟩:=Lg hr;replace cK:=gD.keep cK;replace kr:=gD.keep kr;replace vG:=blk cK;have zf:=Kz (I.o.trans gD);clear hA hr gD ze;go_wp2_with fail;refine(jA (s0,s1) q5 _ (Rd.gr za.o gd)).mono ?_;rintro e w' ⟨es,zg,rfl,hr,-,x4,rfl⟩;have gE:Gr D ((D.alloc (.cells #[.string s0,.slice o5 s1.length o9] 123)).ext x4):=gd;generalize(D.alloc (.cells #[.string s0,.slice o5 s1.length o9] 123)).ext x4=E at hr gE ⊢;have hr:Rd.rd zg E es.toList ((ek s1 q5).getD dR):=hr;obtain⟨A2,dV⟩:=nm ((ek s1 q5).getD dR);rw[←dV] at hr;have zl:=Kz dV;obtain⟨t0,t1,t2,t3,rfl,rfl,-,y7,dB,y8⟩:=Ld hr
             have ak:=Kz (show J=t1 by
              rw[q.o]
              show(if (4:Int)=4 then xD (g0,g1) q4 q5 else 0)=t1
              rw[if_pos rfl]
              show((ek ((bW g0 q4).getD dE).2 q5).getD dR).2.1=t1
              rw[←HA.o]
              show((ek s1 q5).getD dR).2.1=t1
              rw[←zl.o])
             have zn:=Kz (zf.o.trans gE);clear dV hr gE;go_wp2_with fail;go_ret;exact⟨by rw[ak.o];rfl,by rw[ak.o];exact dB,zn.o.trans gd⟩
            ·have dS:(a==4)=false:=by simpa using h4
             go_wp2_with fail;go_ret;exact⟨by rw[q.o,if_neg h4];rfl,by rw[q.o,if_neg h4];decide,I.o.trans gd⟩
           ·have oL:¬((L.length:Int)=1):=by omega
            have q:=Kz (show J=0 by
             rw[K.o]
             show(match L with|[a]=>_|_=>_)=_
             split
             ·simp at hlen
             ·rfl)
            clear hlen;go_wp2_with fail;go_ret;exact⟨by rw[q.o];rfl,by rw[q.o];decide,I.o.trans gd⟩
          ·have n8:(q0==8)=false:=by simpa using e8
           have q:=Kz (show J=0 by
            rw[K.o];unfold tyL;rw[if_neg E1.o,if_neg E2.o,if_neg E3.o,if_neg E4.o,if_neg E5.o,if_neg E6.o,if_neg E7.o,if_neg e8])
           clear e8;go_wp2_with fail;go_ret;exact⟨by rw[q.o];rfl,by rw[q.o];decide,I.o.trans gd⟩
end Go.Proofs.YtleafadpfeibfaaGreat
