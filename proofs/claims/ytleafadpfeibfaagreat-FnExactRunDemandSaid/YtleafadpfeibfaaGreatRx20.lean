/- Contracts and laws towards ReadsOf, part 20 of 54. No condition. -/
import Derived.Test.YtleafadpfeibfaaGreatRx18
import Derived.Test.YtleafadpfeibfaaGreatRx17
import Derived.Test.YtleafadpfeibfaaGreatRx16
import Derived.Test.YtleafadpfeibfaaGreatRx13
import Derived.Test.YtleafadpfeibfaaGreatRx14
set_option maxHeartbeats 32000000
set_option maxRecDepth 10000
set_option linter.unusedVariables false
set_option linter.unusedSimpArgs false
namespace Go.Proofs.YtleafadpfeibfaaGreat
open Go.RowKit
open _root_.List (append_nil getElem_mem nil_append)
open _root_.Nat (le_trans)
open _root_.Option (getD_some)
variable{d:Nat}
variable{w:World}{g n:Nat}{cs:Array Value}
theorem dX{fx:List Nat}{cx:Array Value}(x:(af d))(n:ByteArray)(w:World)(hx:Rd.rd fx w cx.toList x)(O:aP x≤1048576):
  Calls Tryz.prog 85 #[.agg cx,.string n] w (Found fx w (bW x.1 n) dE):=by
 obtain⟨q,x1,ah,ai,dV,aj,ak,fe,rfl,rfl,-,X,bL,bR,fu,bX,cB⟩:=yt hx;have Z:=X.op3;clear hx;have au:=Kz O;clear O;go_in;go_wp2_with fail
 go_loopw [6] (fun s6 wr=>∃k:Nat,k≤q.length∧Ky (∀j (h:j<q.length),j<k→decide (q[j].1=n)=false)∧Gr ((w.alloc (.cells #[.slice ah q.length ai,.slice aj x1.length ak] 39)).alloc (.cells #[.string ByteArray.empty,.slice none 0 0] 123)) wr∧s6=.int .i64 k) (fun s6 _=>q.length - (intOf s6).toNat)
 case atStart=>exact⟨0,by omega,Kz (by omega),Gr.refl _,rfl⟩
 case round=>
  obtain⟨k,hk,ht,⟨y,rfl⟩,rfl⟩:=hrel
  by_cases D:k<q.length
  ·have cK:=D
   obtain⟨b,off,rfl,gB⟩:=Z k D;obtain⟨ax,gD,I,J,-⟩:=X.at D;obtain⟨yq,T⟩:=nm (q[k]);rw[←T] at J;have K:=Kz T;have ay:=Kz J;obtain⟨q0,q1⟩:=yq;obtain⟨gF,gT,U,-,gV,aZ⟩:=aV (cs:=ax.toArray) q0 q1 (by simpa using J);obtain rfl:=toL U;obtain⟨gX,ik,rfl,cO,dB,dS⟩:=aZ.open;have iw:w.cell? ⟨b,off+k*2,none⟩=some (.string q0):=by simpa[Rd.n] using I 0 _ rfl
   replace I:∀j v,_→w.cell? ⟨b,off+k*2+j,none⟩=some v:=I;have kr:=I 1 _ rfl;clear U I J T
   by_cases B:q0=n
   ·skip
    obtain rfl:=B;have O:bW q q0=some q[k]:=mf D (by rw[←K.o];simp) ht.o;have V:=Kz O;clear O;have hw:bM q[k]≤1048576:=le_trans (dI bM q D) (by have h:dH q+gz x1≤1048576:=au.o;exact le_trans (Nat.le_add_right _ _) h);rw[←K.o] at hw;have HW:=Kz hw;clear hw;go_wp2_with fail;refine(ym (q0,q1) _ (Rd.gr ay.o gd) HW.o).mono ?_;rintro e w' ⟨es,fq,rfl,hr,hf,z1,rfl⟩;have bg:=Kz hr;have Y:=Kz hf;obtain⟨r0,bq,bB,bH,rfl⟩:=xe hr;clear hr hf;go_wp2_with fail
    exact bodyPost_ret (v:=.tuple #[.agg #[.string r0,.slice bq bB bH],.bool true])
     (by simp[results,Tryz.results85,go_sem]) rfl ⟨_,fq,by rw[V.o];rfl,by rw[V.o,getD_some,←K.o];exact Rd.moved bg.o Y.o gd (by simp),fun c hc=>.inr (le_trans (by simp<;>omega) (Y.o.2 c hc)),gd⟩
   ·have E:=Kz B
    have e:(q0.toList==n.toList)=false:=by simpa using fun e=>B (str_inj e)
    clear B;go_wp2_with fail;refine⟨⟨k+1,by omega,Kz fun j hj ku=>?_,gd,by go_num⟩,by simp[intOf];omega⟩
    by_cases ae:j<k
    ·exact ht.o j hj ae
    ·obtain rfl:j=k:=by omega
     rw[←K.o];exact decide_eq_false E.o
  ·have hn:bW q n=none:=jU fun j hj=>ht.o j hj (by omega)
   have V:=Kz hn;clear hn;go_wp2_with fail
   exact bodyPost_ret (v:=.tuple #[.agg #[.string ⟨#[]⟩,.slice none 0 0],.bool false])
    (by simp[results,Tryz.results85,go_sem]) rfl ⟨_,_,by rw[V.o];rfl,by rw[V.o];exact CR _,by simp,gd⟩
theorem iM{fx:List Nat}{cx:Array Value}(x:(af d))(n:ByteArray)(w:World)(hx:Rd.rd fx w cx.toList x)(O:aP x≤1048576):
  Calls Tryz.prog 97 #[.agg cx,.string n] w (Found fx w (dJ x.2 n) fH):=by
 obtain⟨x0,B,ah,ai,lq,aj,ak,oH,rfl,rfl,-,oL,dV,fe,X,fu,gB⟩:=yt hx;have Z:=X.op3;clear hx;have au:=Kz O;clear O;go_in;go_wp2_with fail
 go_loopw [6] (fun s6 wr=>∃k:Nat,k≤B.length∧Ky (∀j (h:j<B.length),j<k→decide (B[j].1=n)=false)∧Gr ((w.alloc (.cells #[.slice ah x0.length ai,.slice aj B.length ak] 39)).alloc (.cells #[.string ByteArray.empty,.string ByteArray.empty,.slice none 0 0,.bool false,.slice none 0 0,.slice none 0 0] 128)) wr∧s6=.int .i64 k) (fun s6 _=>B.length - (intOf s6).toNat)
 case atStart=>exact⟨0,by omega,Kz (by omega),Gr.refl _,rfl⟩
 case round=>
  obtain⟨k,hk,ht,⟨y,rfl⟩,rfl⟩:=hrel
  by_cases I:k<B.length
  ·have gD:=I
   obtain⟨b,off,rfl,o5⟩:=Z k I;obtain⟨ax,o9,q,J,-⟩:=X.at I;obtain⟨yq,T⟩:=nm (B[k]);rw[←T] at J;have K:=Kz T;have ay:=Kz J;obtain⟨q0,q1,q2,q3,q4,q5⟩:=yq;obtain⟨qb,q8,q9,sO,uf,uo,U,-,uq,uz,aZ,bg,bq⟩:=aM (cs:=ax.toArray) q0 q1 q2 q3 q4 q5 (by simpa using J);obtain rfl:=toL U;obtain⟨u6,ve,rfl,gF,gT,gV⟩:=aZ.open;obtain⟨vB,vD,rfl,gX,ik,iw⟩:=bg.open;obtain⟨vF,vG,rfl,kr,ku,ky⟩:=bq.open;have vL:w.cell? ⟨b,off+k*6,none⟩=some (.string q0):=by simpa[Rd.n] using q 0 _ rfl
   replace q:∀j v,_→w.cell? ⟨b,off+k*6+j,none⟩=some v:=q;have vO:=q 1 _ rfl;have vR:=q 2 _ rfl;have vX:=q 3 _ rfl;have wF:=q 4 _ rfl;have wL:=q 5 _ rfl;clear U q J T
   by_cases D:q0=n
   ·skip
    obtain rfl:=D;have O:dJ B q0=some B[k]:=mf I (by rw[←K.o];simp) ht.o;have V:=Kz O;clear O;have hw:bF B[k]≤1048576:=le_trans (dI bF B I) (by have h:dH x0+gz B≤1048576:=au.o;exact le_trans (Nat.le_add_left _ _) h);rw[←K.o] at hw;have HW:=Kz hw;clear hw;go_wp2_with fail;refine(DK (q0,q1,q2,q3,q4,q5) _ (Rd.gr ay.o gd) HW.o).mono ?_;rintro e w' ⟨es,fq,rfl,hr,hf,z1,rfl⟩;have bB:=Kz hr;have Y:=Kz hf;obtain⟨r0,r1,bH,bL,bR,r3,bX,cB,cK,cO,dB,dS,rfl⟩:=AX hr;clear hr hf;go_wp2_with fail
    exact bodyPost_ret (v:=.tuple #[.agg #[.string r0,.string r1,.slice bH bL bR,.bool r3,.slice bX cB cK,.slice cO dB dS],.bool true])
     (by simp[results,Tryz.results97,go_sem]) rfl ⟨_,fq,by rw[V.o];rfl,by rw[V.o,getD_some,←K.o];exact Rd.moved bB.o Y.o gd (by simp),fun c hc=>.inr (le_trans (by simp<;>omega) (Y.o.2 c hc)),gd⟩
   ·have E:=Kz D
    have e:(q0.toList==n.toList)=false:=by simpa using fun e=>D (str_inj e)
    clear D;go_wp2_with fail;refine⟨⟨k+1,by omega,Kz fun j hj w9=>?_,gd,by go_num⟩,by simp[intOf];omega⟩
    by_cases ae:j<k
    ·exact ht.o j hj ae
    ·obtain rfl:j=k:=by omega
     rw[←K.o];exact decide_eq_false E.o
  ·have hn:dJ B n=none:=jU fun j hj=>ht.o j hj (by omega)
   have V:=Kz hn;clear hn;go_wp2_with fail
   exact bodyPost_ret (v:=.tuple #[.agg #[.string ⟨#[]⟩,.string ⟨#[]⟩,.slice none 0 0,.bool false,.slice none 0 0,.slice none 0 0],.bool false])
    (by simp[results,Tryz.results97,go_sem]) rfl ⟨_,_,by rw[V.o];rfl,by rw[V.o];exact CE _,by simp,gd⟩
theorem iC{fg:List Nat}{cg:Array Value}(g:(af d)){ft:List Nat}{ct:Array Value}(t:fU)(i:Int)(w:World)(hg:Rd.rd fg w cg.toList g)(ht:Rd.rd ft w ct.toList t)(Z:aP g≤1048576):
  Qz 68 #[.agg cg,.agg ct,.int .i64 i] w (.string (zB g t i)):=by
 have HG:=Kz hg;obtain⟨g0,g1,ag0,kg0,cO,ag1,kg1,dB,rfl,rfl,-,dS,ak,au,dV,ax,ay⟩:=yt hg;clear hg;obtain⟨t0,fe,O,fu,rfl,rfl,-,T,aZ,bg⟩:=K8 ht;have U:=T.op3;clear ht;have ae:=Kz Z;clear Z
 by_cases q:0≤i∧i≤(t0.length:Int) - 1
 ·obtain⟨n,rfl⟩:∃n:Nat,i=n:=⟨i.toNat,by omega⟩
  have D:n<t0.length:=by omega
  have HI:=Kz q;have hs:zB (g0,g1) t0 (n:Int)=leftOf (g0,g1) t0[n]:=by unfold zB;rw[gG D]
  have V:=Kz hs;clear q hs;obtain⟨b,off,rfl,h⟩:=U n D;obtain⟨q0,q1,q2,q3,q4,q5,gD,gF,gT,gV,ah,gX,ik,iw,kr,ku,ky,lq,bq,bB,oH,oL,o5,o9,ai,qb,q8⟩:=KZ T D (Gr.refl _);have i0:(0:Int)≤(n:Int):=by omega
  have i1:(n:Int)<(t0.length:Int):=by omega
  delta Qz;go_in;go_wp2_with fail;refine(fJ _ _ _ _ HI.o.1 HI.o.2).mono ?_;rintro e w' ⟨rfl,X,rfl⟩;go_wp2_with fail;generalize I:(((w.alloc (.cells #[.slice ag0 g0.length kg0,.slice ag1 g1.length kg1] 39)).alloc (.cells #[.slice (some ⟨b,off,none⟩) t0.length O] 43)).ext X)=B;have Y:Gr w B:=gb I;obtain⟨q9,sO⟩:=kb2 I (w.heap.size) (.slice ag0 g0.length kg0) (.slice ag1 g1.length kg1);have uf:=kb I (w.heap.size+1) 0 (.slice (some ⟨b,off,none⟩) t0.length O);have sB:B.heap.size=w.heap.size+2+X.objs.size:=szB I;clear I;have kq:=fun(w':World) (hg:Gr B w')=>(Y.trans hg).keep ai
  go_region_held3 (fun w'=>Gr B w') (exact ga)
   (first|(go_at_call 97;refine(iM (g0,g1) q4 _ (Rd.gr HG.o (Y.trans ga)) ae.o).mono ?_;rintro e w' ⟨es,fq,rfl,hr,-,x2,rfl⟩;obtain⟨r0,r1,r2,r3,r4,r5,uo,uq,uz,u6,ve,vB,vD,vF,vG,J,rfl,-,vL,vO,vR,bH,bL,vX,bR,bX,wF,cB,cK⟩:=KV (x:=(dJ g1 q4).getD fH) hr;have aj:=Kz J;have wL:=Lt J hr;clear hr J;obtain⟨bb,h⟩:∃b:Bool,b=(dJ g1 q4).isSome:=⟨_,rfl⟩;rw[←h];have w9:=Kz h;clear h))
  all_goals
   go_wp2_with fail;go_ret;exact⟨E8 (by rw[V.o,←ah.o];unfold leftOf;rw[←aj.o]),Y.trans gd⟩
 ·have K:i<0∨(t0.length:Int) - 1<i:=by omega
  have HO:=Kz K;have hs:zB (g0,g1) t0 i=ByteArray.empty:=by unfold zB;rw[jY K]
  have V:=Kz hs;clear q K hs;delta Qz;go_in;go_wp2_with fail;refine(eu _ _ _ _ HO.o).mono ?_;rintro e w' ⟨rfl,X,rfl⟩;go_wp2_with fail;go_ret;exact⟨by rw[V.o];rfl,gd⟩
theorem bE.zk{α:Type}[Rd α]{w0:World}(e:TypeId)(h:w0.heap.size≤w.heap.size)(hg:g=w.heap.size){q:List (List Value)}{fps:List (List Nat)}{xs:List α}(B:Els w q fps xs)(D:cs.toList=q.flatten)(J:xs.length≤maxLen):bE w0 e (w.alloc (.cells cs e)) (.slice (some ⟨g,0,none⟩) xs.length xs.length) fps xs:=by
 subst hg;have I:Gr w (w.alloc (.cells cs e)):=gd;refine⟨⟨q,?_,B.mono (I.lN B.lt)⟩,fun b hb hm=>?_⟩
 ·have h1:=World.ownsRow_lit (base:=w0.heap.size) (e:=e) (size:=Rd.n α) w cs xs.length h J (by rw[←Array.length_toList,D,nY B.n,B.cl])
  rw[←D];exact h1
 ·injection hb with hb
  subst hb;exact Nat.lt_irrefl _ (B.lt _ hm)
theorem Els.JZ{α:Type}[Rd α](enc:α→Value){xs:List α}(h:∀x∈xs,Rd.rd (α:=α) [] w [enc x] x):Els w (xs.map fun x=>[enc x]) (xs.map fun _=>[]) xs:=
 ⟨by simp,by simp,fun i q h1 B=>by simpa using h _ (getElem_mem q)⟩
theorem GI{α:Type}(enc:α→Value)(xs:List α):(xs.map fun x=>[enc x]).flatten=xs.map enc:=by
 induction xs with
 |nil=>rfl
 |cons x xs h=>simp[h]
theorem SlR.FB{α:Type}[Rd α](enc:α→Value)(e:TypeId)(hg:g=w.heap.size)(xs:List α)(hn:n=xs.length)(q:cs.toList=xs.map enc)(h:∀x∈xs,Rd.rd (α:=α) [] w [enc x] x)(I:xs.length≤1048576):∃fp,SlR fp (w.alloc (.cells cs e)) (.slice (some ⟨g,0,none⟩) n n) xs∧∀b∈fp,w.heap.size≤b:=by
 subst hn;have h1:=bE.zk (w0:=w) e (Nat.le_refl _) hg (Els.JZ enc h) (q.trans (GI enc xs).symm) (by unfold maxLen;omega);obtain⟨fp,B,D⟩:=h1.slR (by unfold bn;omega);refine⟨fp,B,fun b hb=>?_⟩;rcases D with⟨-,rfl⟩|⟨c,hc,rfl⟩
 ·simp at hb
 ·rw[show((xs.map fun _=>([]:List Nat))).flatten=[] by simp] at hb
  obtain rfl:=List.mem_singleton.1 hb;exact(h1.base _ hc).1
theorem SlR.Kk(e:TypeId)(hg:g=w.heap.size)(xs:List ByteArray)(hn:n=xs.length)(q:cs.toList=xs.map Value.string)(h:∀x∈xs,x.size≤64)(B:xs.length≤1048576):∃fp,SlR fp (w.alloc (.cells cs e)) (.slice (some ⟨g,0,none⟩) n n) xs∧∀b∈fp,w.heap.size≤b:=
 SlR.FB Value.string e hg xs hn q (fun x D=>⟨rfl,rfl,by have:=h x D;unfold maxLen;omega⟩) B
theorem SlR.Kg(e:TypeId)(hg:g=w.heap.size)(xs:List Int)(hn:n=xs.length)(q:cs.toList=xs.map (Value.int .i64))(h:∀x∈xs,(Lit.int .i64 x).wf=true)(B:xs.length≤1048576):∃fp,SlR fp (w.alloc (.cells cs e)) (.slice (some ⟨g,0,none⟩) n n) xs∧∀b∈fp,w.heap.size≤b:=
 SlR.FB (Value.int .i64) e hg xs hn q (fun x D=>⟨rfl,rfl,h x D⟩) B
theorem mi{fp:List Nat}{u:Value}(xs:List ByteArray)(s:ByteArray)(w:World)(hu:SlR fp w u xs):
  Qz 192 #[u,.string s] w (.bool (pB (s∈xs))):=by
 have U:=Kz hu;obtain⟨a,c,rfl,k1,k2,V⟩:=hu.open;clear hu;delta Qz;go_in;go_wp2_with fail
 go_loopw [5] (fun D wr=>∃k:Nat,k≤xs.length∧s∉xs.take k∧wr=w∧D=.int .i64 k) (fun D _=>xs.length - (intOf D).toNat)
 case atStart=>exact⟨0,by omega,by simp,rfl,rfl⟩
 case round=>
  obtain⟨k,hk,B,rfl,rfl⟩:=hrel;have K:=Kz B;clear B
  by_cases q:k<xs.length
  ·obtain⟨b,off,rfl,hb⟩:=V k q
   have X:=(U.o.jl q).1;obtain⟨y,I⟩:=nm (xs[k]);rw[←I] at X;have O:=Kz I;clear I;have k0:(0:Int)≤(k:Int):=by omega
   have Z:(k:Int)<(xs.length:Int):=by omega
   have iw:=zI1 k (by omega)
   by_cases hs:y=s
   ·have Y:(y.toList==s.toList)=true:=by rw[hs];simp
    have J:=Kz hs;clear hs;go_wp2_with fail;go_ret;exact⟨aa (bQ (by rw[←J.o,O.o];exact getElem_mem q)).symm,Gr.refl _⟩
   ·have Y:(y.toList==s.toList)=false:=by
     rw[beq_eq_false_iff_ne];exact fun h=>hs (str_inj h)
    have J:=Kz hs;clear hs;go_wp2_with fail;refine⟨⟨k+1,by omega,?_,trivial,by go_num⟩,by simp[intOf];omega⟩;rw[List.take_succ_eq_append_getElem q,List.mem_append,List.mem_singleton,←O.o];exact fun h=>h.elim K.o (fun h=>J.o h.symm)
  ·have T:k=xs.length:=by omega
   subst T;go_wp2_with fail;go_ret;exact⟨aa (bV (by have:=K.o;rwa [List.take_length] at this)).symm,Gr.refl _⟩
set_option maxRecDepth 100000 in
theorem wM(w:World):Calls Tryz.prog 271 #[] w fun e w'=>∃v fq,e=.returned v∧SlR fq w' v rQ∧Gr w w':=by
 go_in;go_wp2_with fail;go_ret;obtain⟨fp,h1,-⟩:=SlR.Kk 9 (w:=w) rfl rQ rfl rfl (by decide) (by decide);exact⟨_,fp,rfl,h1,gd⟩
theorem tY(s:ByteArray)(w:World):Qz 254 #[.string s] w (.bool (pB (s∈rQ))):=by
 delta Qz;go_in;go_wp2_with fail;refine(wM _).mono ?_;rintro e w' ⟨v,fq,rfl,hs,g1⟩;have q:=Kz hs;have B:=Kz g1;clear hs g1;go_wp2_with fail;refine(mi rQ s _ q.o).mono ?_;rintro e w' ⟨rfl,g2⟩;have h:=Kz g2;clear g2;go_wp2_with fail;go_ret;exact⟨rfl,B.o.trans h.o⟩
theorem yn(s:ByteArray)(hs:s.size≤2097152)(w:World):Qz 253 #[.string s] w (.bool (pB (qw s))):=by
 delta Qz;go_in;go_wp2_with fail
 go_loopw [3] (fun T wr=>∃k:Nat,k≤s.size∧Ky (∀j (h:j<s.size),j<k→qz s[j]∨(j≠0∧rV s[j]))∧wr=w∧T=.int .i64 k) (fun T _=>s.size - (intOf T).toNat)
 case atStart=>exact⟨0,by omega,Kz (fun j h U=>by omega),rfl,rfl⟩
 case round=>
  obtain⟨k,hk,X,rfl,rfl⟩:=hrel
  by_cases Y:k<s.size
  ·have k0:(0:Int)≤(k:Int):=by omega
   have k1:(k:Int)<(s.size:Int):=by omega
   have iw:=zI1 k (by omega)
   by_cases q:qz s[k]∨(k≠0∧rV s[k])
   ·have D:=Kz q
    have J:∀j (h:j<s.size),j<k+1→qz s[j]∨(j≠0∧rV s[j]):=fun j h hj=>by
     by_cases e:j=k
     ·subst e;exact q
     ·exact X.o j h (by omega)
    have B:=Kz J;clear q J
    by_cases hz:k=0
    ·have K:((k:Int)==0)=true:=by simp[hz]
     have I:=Kz hz;clear hz;go_wp2_with fail
     all_goals first
      |exact⟨⟨k+1,by omega,B,trivial,by go_num⟩,by simp[intOf];omega⟩
      |(exfalso;have h1:=D.o;have V:=I.o;unfold qz rV at h1;first|omega|(simp only[Bool.not_eq_true',Bool.not_eq_false',decide_eq_true_eq,decide_eq_false_iff_not] at*;omega))
    ·have K:((k:Int)==0)=false:=by simp[hz]
     have I:=Kz hz;clear hz;go_wp2_with fail
     all_goals first
      |exact⟨⟨k+1,by omega,B,trivial,by go_num⟩,by simp[intOf];omega⟩
      |(exfalso;have h1:=D.o;have V:=I.o;unfold qz rV at h1;first|omega|(simp only[Bool.not_eq_true',Bool.not_eq_false',decide_eq_true_eq,decide_eq_false_iff_not] at*;omega))
   ·have D:=Kz q
    have O:¬qw s:=fun h=>q (h.2 k Y)
    have B:=Kz (bV O);clear q O
    by_cases hz:k=0
    ·have K:((k:Int)==0)=true:=by simp[hz]
     have I:=Kz hz;clear hz;go_wp2_with fail
     all_goals first
      |(go_ret;exact⟨aa B.o.symm,Gr.refl _⟩)
      |(exfalso;have h1:=D.o;have V:=I.o;unfold qz rV at h1;first|omega|(simp only[Bool.not_eq_true',Bool.not_eq_false',decide_eq_true_eq,decide_eq_false_iff_not] at*;omega))
    ·have K:((k:Int)==0)=false:=by simp[hz]
     have I:=Kz hz;clear hz;go_wp2_with fail
     all_goals first
      |(go_ret;exact⟨aa B.o.symm,Gr.refl _⟩)
      |(exfalso;have h1:=D.o;have V:=I.o;unfold qz rV at h1;first|omega|(simp only[Bool.not_eq_true',Bool.not_eq_false',decide_eq_true_eq,decide_eq_false_iff_not] at*;omega))
  ·have Z:k=s.size:=by omega
   subst Z
   by_cases U:1≤s.size
   ·have ae:(0:Int)<(s.size:Int):=by omega
    have B:=Kz (bQ (show qw s from⟨U,fun j h=>X.o j h h⟩));go_wp2_with fail;go_ret;exact⟨aa (by rw[B.o];first|exact decide_eq_true (by omega)|exact decide_eq_false (by omega)),Gr.refl _⟩
   ·have ae:¬(0:Int)<(s.size:Int):=by omega
    have B:=Kz (bV (show¬qw s from fun h=>U h.1));go_wp2_with fail;go_ret;exact⟨aa (by rw[B.o];first|exact decide_eq_true (by omega)|exact decide_eq_false (by omega)),Gr.refl _⟩
theorem dN(s:ByteArray)(hs:s.size≤2097152)(w:World):Qz 231 #[.string s] w (.bool (pB (dh s))):=by
 delta Qz;go_in;go_wp2_with fail;refine(yn s hs _).mono ?_;rintro e w' ⟨rfl,g2⟩;have q:=Kz g2;clear g2
 by_cases h1:qw s
 ·rw[bQ h1]
  by_cases D:s.size≤8
  ·have J:(s.size:Int)≤8:=by omega
   have B:=Kz (show pB (dh s)=!(pB (s∈rQ)) from by
    by_cases I:s∈rQ
    ·rw[bQ I,bV (fun h=>h.2.2 I)];rfl
    ·rw[bV I,bQ ⟨h1,D,I⟩];rfl)
   clear h1 D;go_wp2_with fail;refine(tY s _).mono ?_;rintro e w' ⟨rfl,g3⟩;have K:=Kz g3;clear g3;go_wp2_with fail;go_ret;exact⟨aa (by rw[B.o]),q.o.trans K.o⟩
  ·have J:¬(s.size:Int)≤8:=by omega
   have B:=Kz (bV (show¬dh s from fun h=>D h.2.1));clear h1 D;go_wp2_with fail;go_ret;exact⟨aa B.o.symm,q.o⟩
 ·rw[bV h1]
  have B:=Kz (bV (show¬dh s from fun h=>h1 h.1));clear h1;go_wp2_with fail;go_ret;exact⟨aa B.o.symm,q.o⟩
structure TestRule(w:World)(fid:Nat)(cap:Array Value)(p:(aW d)→Bool)(xs:List (aW d)):Prop where
 fn:∀args W,(callFunc fid args).run Tryz.prog W=.ok (.enter fid args) W
 calls:∀y∈xs,∀(x:Ext) (fp:List Nat) (cs:Array Value),Rd.rd fp (w.ext x) cs.toList y→Qz fid (#[.agg cs]++cap) (w.ext x) (.bool (p y))
theorem qQ(fp:List Nat)(u:Value)(xs:List (aW d))(D:Nat)(cap:Array Value)(p:(aW d)→Bool)(w:World)(hu:SlR fp w u xs)(Z:TestRule w D cap p xs):
  Qz 243 #[u,.func (.func D) #[] cap] w (.int .i64 (idxOf p xs)):=by
 obtain⟨a,ca,rfl,h1,h2,V⟩:=hu.open;obtain⟨ae,q⟩:=Z;have HC:=Kz q;clear q;delta Qz;go_in
 go_wp2
 go_loopw [8,5] (fun I s5 wr=>∃k:Nat,k≤xs.length∧(∀j (h:j<xs.length),j<k→p xs[j]=false)∧Gr w wr∧I=.int .i64 k) (fun I s5 _=>xs.length - (intOf I).toNat)
 case atStart=>exact⟨0,by omega,by omega,Gr.refl w,rfl⟩
 case round=>
  obtain⟨k,hk,ht,⟨x,rfl⟩,rfl⟩:=hrel;have J:=Kz ht;clear ht
  by_cases B:k<xs.length
  ·obtain⟨b,off,rfl,hb⟩:=V k B
   obtain⟨q0,q1,q2,q3,q4,q5,ah,ai,aj,ak,au,ax,ay,aZ,bg,bq,X,Y,-,-,bB,-,-,bH,-,-,bL,-,-,z0,z1,z2,z3,z4,z5,-⟩:=Lf hu B (Gr.refl _);have K:=Lb X Y;clear V;go_wp2_with fail;refine(HC.o _ (getElem_mem B) _ _ _ (Rd.gr K gd)).mono ?_;rintro e w2 ⟨rfl,x2,rfl⟩
   go_wp2
   ·have O:p xs[k]=true:=by assumption
    go_ret;exact⟨aC (iH B O J.o).symm,gd⟩
   ·have O:p xs[k]=false:=by assumption
    refine⟨⟨k+1,by omega,fun j T bR=>?_,gd,by go_num⟩,by simp[intOf];omega⟩
    by_cases U:j<k
    ·exact J.o j T U
    ·obtain rfl:j=k:=by omega
     exact O
  ·go_wp2
   go_ret;exact⟨aC (gu fun j T=>J.o j T (by omega)).symm,gd⟩
theorem oQ(fp:List Nat)(u:Value)(xs:List (aW d))(h:Nat)(cap:Array Value)(p:(aW d)→Bool)(w:World)(hu:SlR fp w u xs)(q:TestRule w h cap p xs):
  Qz 212 #[u,.func (.func h) #[] cap] w (.bool (xs.any p)):=by
 delta Qz;go_in
 go_wp2_with (go_at_call 243;refine(qQ fp _ _ _ _ _ _ hu q).mono ?_;rintro e w1 ⟨rfl,g1⟩)
 go_ret;refine⟨aa ?_,by assumption⟩;rw[Bool.eq_iff_iff,decide_eq_true_iff];exact iW
def KG(k:Int):(aW d)→(aW d)×Int
 |(_,_,q2,_,q4,q5)=>((mtx (k),mtx (k+1),(dC (k+1+1) q2).1,mbo ((dC (k+1+1) q2).2),(dL ((dC (k+1+1) q2).2+1) q4).1,(dA ((dL ((dC (k+1+1) q2).2+1) q4).2) q5).1),(dA ((dL ((dC (k+1+1) q2).2+1) q4).2) q5).2)
theorem BR(k:Int)(x:(aW d)):k≤(KG k x).2∧(KG k x).2≤k+16*(1+bF x):=by
 obtain⟨q0,q1,q2,q3,q4,q5⟩:=x;have h:=uR (k+1+1) q2;have q:=qo ((dC (k+1+1) q2).2+1) q4;have B:=mo ((dL ((dC (k+1+1) q2).2+1) q4).2) q5;have hw:bF (q0,q1,q2,q3,q4,q5)=(q0.size)+(q1.size)+(cu q2)+(cz q4)+(df q5):=rfl;simp only[KG] at*;omega
theorem yh(k:Int)(x:(aW d)):k≤(KG k x).2:=(BR k x).1
def kE(k:Int)(x:List (aW d)):List (aW d)×Int:=gK KG k x
theorem Ae(k:Int)(x:List (aW d)):k≤(kE k x).2∧(kE k x).2≤k+16*gz x:=by
 have:=jN KG bF BR x k;unfold kE gz;exact this
theorem Ci(k:Int)(x:List (aW d)):k≤(kE k x).2:=(Ae k x).1
theorem yT(fp:List Nat)(u:Value)(xs:List (aW d))(k:Int)(w:World)(hu:SlR fp w u xs)(y8:fp.Nodup)(h0:0<k)(h1:(kE k xs).2≤4398046511104):
  Calls Tryz.prog 50 #[u,.int .i64 k] w fun e w'=>e=.returned (.int .i64 (kE k xs).2)∧SlR fp w' u (kE k xs).1∧Wr fp w w':=by
 obtain⟨a,ca,rfl,g1,g2,g3⟩:=hu.open;have H1:=Kz h1;clear h1;go_in
 go_wp2
 go_loopw [5,1] (fun s5 s1 wr=>∃(i:Nat) (m:Int),i≤xs.length∧Ky (m=(gK KG k (xs.take i)).2)∧SlR fp wr (.slice a xs.length ca) (markT KG k xs i)∧Wr fp w wr∧s5=.int .i64 i∧s1=.int .i64 m) (fun s5 _ _=>xs.length - (intOf s5).toNat)
 case atStart=>exact⟨0,k,by omega,Kz (by simp[gK]),by rw[iE];exact hu,Wr.refl _ _,rfl,rfl⟩
 case round=>
  obtain⟨i,m,hi,hm,hs,hW,rfl,rfl⟩:=hrel;have HS:=Kz hs;have HW:=Kz hW;clear hs hW
  by_cases X:i<xs.length
  ·obtain⟨b,off,rfl,hb⟩:=g3 i X
   have ve:i<(markT KG k xs i).length:=by rw[iJ];exact X
   obtain⟨cs,fq,hc,hr,hsub,y9,cK,cO,hz,bq⟩:=HS.o.focus y8 ve
   have HP:=Kz bq;rw[kQ KG k xs X] at hr;obtain⟨y,hy⟩:=nm (xs[i]);rw[←hy] at hr;have HY:=Kz hy;have bd:=dG KG yh k xs (i+1);have qb:=dG KG yh k xs i;rw[dF KG k xs X,←hm.o,←hy] at bd;rw[←hm.o] at qb;obtain⟨q0,q1,q2,q3,q4,q5⟩:=y;obtain⟨zq,B,zu,D,zx,I,q8,q9,-,-,dB,dS,dV⟩:=aM (cs:=cs.toArray) q0 q1 q2 q3 q4 q5 (by simpa using hr);obtain rfl:=toL q8;rw[q9] at hsub cK cO HP bq hr;clear q9;have z0:wr.cell? ⟨b,off+i*6,none⟩=some (.string q0):=by simpa[Rd.n] using hc 0 _ rfl
   replace hc:∀j v,_→wr.cell? ⟨b,off+i*6+j,none⟩=some v:=hc;have z1:=hc 1 _ rfl;have z2:=hc 2 _ rfl;have z3:=hc 3 _ rfl;have z4:=hc 4 _ rfl;have z5:=hc 5 _ rfl;have f0:wr.frozen? ⟨b,off+i*6,none⟩=false:=by simpa[Rd.n] using hz 0 (by show _<6;decide)
   replace hz:∀j,j<6→wr.frozen? ⟨b,off+i*6+j,none⟩=false:=hz;have f1:=hz 1 (by decide);have f3:=hz 3 (by decide);have J:=blk z0;have m0:0<m:=by omega
   have em:(KG m (q0,q1,q2,q3,q4,q5)).2=(dA ((dL ((dC (m+1+1) q2).2+1) q4).2) q5).2:=rfl;rw[em] at bd;have zy:=yO (m+1+1) q2;have zH:=vC ((dC (m+1+1) q2).2+1) q4;have zL:=pR ((dL ((dC (m+1+1) q2).2+1) q4).2) q5;have m1:(dA ((dL ((dC (m+1+1) q2).2+1) q4).2) q5).2≤4398046511104:=by have h:=H1.o;have e:(kE k xs).2=(gK KG k xs).2:=rfl;omega
   have vB:=fun o o' (h:¬o'=o)=>cne b o o' h
   have fz:=fun(W:World) (o o':Nat) (v:Value)=>(eQ:(W.setCell ⟨b,o,none⟩ v).frozen? ⟨b,o',none⟩=W.frozen? ⟨b,o',none⟩)
   have za:=Kz (fK (m) (by omega));have zb:=Kz (fK (m+1) (by omega));have N0:(B++(D++(I))).Nodup:=by simpa only[nil_append,append_nil] using cO
   have M0:b∉B++(D++(I)):=by simpa only[nil_append,append_nil] using cK
   obtain⟨sO,N1,R0⟩:=pF N0;obtain⟨uq1,N2,R1⟩:=pF N1;have uq2:=sO;have uf:b∉B:=fun h=>M0 (by simp[h])
   have uo:=uq1;have uq:b∉D:=fun h=>M0 (by simp[h])
   have uz:=N2;have u6:b∉I:=fun h=>M0 (by simp[h])
   have ak:∀c∈B,c∉D:=fun c h1 V=>R0 c h1 (by simp[V])
   have au:∀c∈D,c∉B:=fun c h1 V=>R0 c V (by simp[h1])
   have ax:∀c∈B,c∉I:=fun c h1 V=>R0 c h1 (by simp[V])
   have ay:∀c∈I,c∉B:=fun c h1 V=>R0 c V (by simp[h1])
   have aZ:∀c∈D,c∉I:=fun c h1 V=>R1 c h1 (by simp[V])
   have bg:∀c∈I,c∉D:=fun c h1 V=>R1 c V (by simp[h1])
   have ze:=Kz dB;obtain⟨Y,Z,rfl,-,-,-⟩:=dB.open;have zf:=Kz dS;obtain⟨ae,ah,rfl,-,-,-⟩:=dS.open;have zg:=Kz dV;obtain⟨ai,aj,rfl,-,-,-⟩:=dV.open;have bB:=Kz ak;have bH:=Kz ax;have bL:=Kz au;have bR:=Kz aZ;have bX:=Kz ay;have cB:=Kz bg;have K:=Kz uf;have O:=Kz uq;have T:=Kz u6;have vD:=Kz uq2;have vF:=Kz uo;have vG:=Kz uz;clear ak ax au aZ ay bg uf uq u6 uq2 uo uz M0 N0 N1 N2 sO R0 uq1 R1 dB dS dV;clear hc hz bq qb g3 em hy hr q8;have vL:=Kz hsub;clear cK cO hsub;go_wp2_with fail;refine(dz (m) _ (by omega) (by omega)).mono ?_;rintro e w0 ⟨rfl,x0,rfl⟩;go_wp2_with fail;refine(dz (m+1) _ (by omega) (by omega)).mono ?_;rintro e w1 ⟨rfl,x1,rfl⟩;go_wp2_with fail;refine(vN B _ q2 (m+1+1) _ ((SlR.wr ze.o (fp:=[b]) (by repeat(first|with_reducible refine Wr.setCell ?_ (by simp) _|with_reducible refine Wr.gr ?_ (Gr.ext (Gr.refl _) _)|exact Wr.refl _ _)) (by have:=K.o;intro c hc q;simp at q;subst q;exact this hc))) vD.o (by omega) (by show(dC (m+1+1) q2).2≤_;omega)).mono ?_;rintro e y2 ⟨rfl,t2,r2⟩;have T2:=Kz t2;have R2:=Kz r2;clear t2 r2;have F2:=Kz (Foc.inner (b:=b) (lo:=off+i*Rd.n (aW d)) (n:=Rd.n (aW d)) (fq:=([]++([]++(B++([]++(D++I)))))) (w:=wr) (by repeat(first|with_reducible refine Foc.set ?_ (by simp[Rd.n]<;>omega) (by simp[Rd.n]<;>omega) _|with_reducible refine Foc.gr ?_ J (Gr.ext (Gr.refl _) _)|exact Foc.refl _ _ _ _ _)) J R2.o (by intro c hc;simp[hc]) K.o);have iw:=T2;have kr:=Kz (SlR.wr (SlR.wr zf.o (fp:=[b]) (by repeat(first|with_reducible refine Wr.setCell ?_ (by simp) _|with_reducible refine Wr.gr ?_ (Gr.ext (Gr.refl _) _)|exact Wr.refl _ _)) (by have:=O.o;intro c hc q;simp at q;subst q;exact this hc)) R2.o bL.o);have ku:=Kz (SlR.wr (SlR.wr zg.o (fp:=[b]) (by repeat(first|with_reducible refine Wr.setCell ?_ (by simp) _|with_reducible refine Wr.gr ?_ (Gr.ext (Gr.refl _) _)|exact Wr.refl _ _)) (by have:=T.o;intro c hc q;simp at q;subst q;exact this hc)) R2.o bX.o);have e2:=R2.o.block b (Nat.lt_of_lt_of_le J (Foc.wr (b:=b) (lo:=off+i*Rd.n (aW d)) (n:=Rd.n (aW d)) (fq:=([]++([]++(B++([]++(D++I)))))) (w:=wr) (by repeat(first|with_reducible refine Foc.set ?_ (by simp[Rd.n]<;>omega) (by simp[Rd.n]<;>omega) _|with_reducible refine Foc.gr ?_ J (Gr.ext (Gr.refl _) _)|exact Foc.refl _ _ _ _ _))).size) K.o;have c2:=fun(o:Nat)=>World.cell?_of_block (a:=⟨b,o,none⟩) e2
   have fe:y2.cell? ⟨b,off+i*6,none⟩=some (.string (mtx (m))):=(c2 _).trans (by go_simp);have vO:y2.cell? ⟨b,off+i*6+1,none⟩=some (.string (mtx (m+1))):=(c2 _).trans (by go_simp);have vR:y2.cell? ⟨b,off+i*6+2,none⟩=some (.slice Y q2.length Z):=(c2 _).trans (by go_simp);have vX:y2.cell? ⟨b,off+i*6+3,none⟩=some (.bool q3):=(c2 _).trans (by go_simp);have wF:y2.cell? ⟨b,off+i*6+4,none⟩=some (.slice ae q4.length ah):=(c2 _).trans (by go_simp);have wL:y2.cell? ⟨b,off+i*6+5,none⟩=some (.slice ai q5.length aj):=(c2 _).trans (by go_simp);have zO:=blk fe;have v2:=fun(o:Nat)=>World.frozen?_of_block (a:=⟨b,o,none⟩) e2
   have s2:=R2.o.size;clear e2 c2 z0 z1 z2 z3 z4 z5;go_wp2_with fail;refine(rE D _ q4 ((dC (m+1+1) q2).2+1) _ ((SlR.wr kr.o (fp:=[b]) (by repeat(first|with_reducible refine Wr.setCell ?_ (by simp) _|with_reducible refine Wr.gr ?_ (Gr.ext (Gr.refl _) _)|exact Wr.refl _ _)) (by have:=O.o;intro c hc q;simp at q;subst q;exact this hc))) vF.o (by omega) (by show(dL ((dC (m+1+1) q2).2+1) q4).2≤_;omega)).mono ?_;rintro e y4 ⟨rfl,t4,r4⟩;have T4:=Kz t4;have R4:=Kz r4;clear t4 r4;have F4:=Kz (Foc.inner (b:=b) (lo:=off+i*Rd.n (aW d)) (n:=Rd.n (aW d)) (fq:=([]++([]++(B++([]++(D++I)))))) (w:=wr) (by repeat(first|with_reducible refine Foc.set ?_ (by simp[Rd.n]<;>omega) (by simp[Rd.n]<;>omega) _|with_reducible refine Foc.gr ?_ J (Gr.ext (Gr.refl _) _)|exact F2.o)) J R4.o (by intro c hc;simp[hc]) O.o);have ky:=Kz (SlR.wr (SlR.wr iw.o (fp:=[b]) (by repeat(first|with_reducible refine Wr.setCell ?_ (by simp) _|with_reducible refine Wr.gr ?_ (Gr.ext (Gr.refl _) _)|exact Wr.refl _ _)) (by have:=K.o;intro c hc q;simp at q;subst q;exact this hc)) R4.o bB.o);have lq:=T4;have oH:=Kz (SlR.wr (SlR.wr ku.o (fp:=[b]) (by repeat(first|with_reducible refine Wr.setCell ?_ (by simp) _|with_reducible refine Wr.gr ?_ (Gr.ext (Gr.refl _) _)|exact Wr.refl _ _)) (by have:=T.o;intro c hc q;simp at q;subst q;exact this hc)) R4.o cB.o);have e4:=R4.o.block b (Nat.lt_of_lt_of_le J (Foc.wr (b:=b) (lo:=off+i*Rd.n (aW d)) (n:=Rd.n (aW d)) (fq:=([]++([]++(B++([]++(D++I)))))) (w:=wr) (by repeat(first|with_reducible refine Foc.set ?_ (by simp[Rd.n]<;>omega) (by simp[Rd.n]<;>omega) _|with_reducible refine Foc.gr ?_ J (Gr.ext (Gr.refl _) _)|exact F2.o))).size) O.o;have c4:=fun(o:Nat)=>World.cell?_of_block (a:=⟨b,o,none⟩) e4
   have fu:y4.cell? ⟨b,off+i*6,none⟩=some (.string (mtx (m))):=(c4 _).trans (by go_simp);have gB:y4.cell? ⟨b,off+i*6+1,none⟩=some (.string (mtx (m+1))):=(c4 _).trans (by go_simp);have gD:y4.cell? ⟨b,off+i*6+2,none⟩=some (.slice Y q2.length Z):=(c4 _).trans (by go_simp);have gF:y4.cell? ⟨b,off+i*6+3,none⟩=some (.bool (mbo ((dC (m+1+1) q2).2))):=(c4 _).trans (by go_simp);have gT:y4.cell? ⟨b,off+i*6+4,none⟩=some (.slice ae q4.length ah):=(c4 _).trans (by go_simp);have gV:y4.cell? ⟨b,off+i*6+5,none⟩=some (.slice ai q5.length aj):=(c4 _).trans (by go_simp);have s4:=R4.o.size;clear e4 c4 fe vO vR vX wF wL;clear fz vB f0 f1 f3;go_wp2_with fail;refine(nO I _ q5 ((dL ((dC (m+1+1) q2).2+1) q4).2) _ ((SlR.wr oH.o (fp:=[b]) (by repeat(first|with_reducible refine Wr.setCell ?_ (by simp) _|with_reducible refine Wr.gr ?_ (Gr.ext (Gr.refl _) _)|exact Wr.refl _ _)) (by have:=T.o;intro c hc q;simp at q;subst q;exact this hc))) vG.o (by omega) (by show(dA ((dL ((dC (m+1+1) q2).2+1) q4).2) q5).2≤_;omega)).mono ?_;rintro e y5 ⟨rfl,t5,r5⟩;have T5:=Kz t5;have R5:=Kz r5;clear t5 r5;have F5:=Kz (Foc.inner (b:=b) (lo:=off+i*Rd.n (aW d)) (n:=Rd.n (aW d)) (fq:=([]++([]++(B++([]++(D++I)))))) (w:=wr) (by repeat(first|with_reducible refine Foc.set ?_ (by simp[Rd.n]<;>omega) (by simp[Rd.n]<;>omega) _|with_reducible refine Foc.gr ?_ J (Gr.ext (Gr.refl _) _)|exact F4.o)) J R5.o (by intro c hc;simp[hc]) T.o);have oL:=Kz (SlR.wr (SlR.wr ky.o (fp:=[b]) (by repeat(first|with_reducible refine Wr.setCell ?_ (by simp) _|with_reducible refine Wr.gr ?_ (Gr.ext (Gr.refl _) _)|exact Wr.refl _ _)) (by have:=K.o;intro c hc q;simp at q;subst q;exact this hc)) R5.o bH.o);have o5:=Kz (SlR.wr (SlR.wr lq.o (fp:=[b]) (by repeat(first|with_reducible refine Wr.setCell ?_ (by simp) _|with_reducible refine Wr.gr ?_ (Gr.ext (Gr.refl _) _)|exact Wr.refl _ _)) (by have:=O.o;intro c hc q;simp at q;subst q;exact this hc)) R5.o bR.o);have o9:=T5;have e5:=R5.o.block b (Nat.lt_of_lt_of_le J (Foc.wr (b:=b) (lo:=off+i*Rd.n (aW d)) (n:=Rd.n (aW d)) (fq:=([]++([]++(B++([]++(D++I)))))) (w:=wr) (by repeat(first|with_reducible refine Foc.set ?_ (by simp[Rd.n]<;>omega) (by simp[Rd.n]<;>omega) _|with_reducible refine Foc.gr ?_ J (Gr.ext (Gr.refl _) _)|exact F4.o))).size) T.o;have c5:=fun(o:Nat)=>World.cell?_of_block (a:=⟨b,o,none⟩) e5
   have w9:y5.cell? ⟨b,off+i*6,none⟩=some (.string (mtx (m))):=(c5 _).trans fu;have xc:y5.cell? ⟨b,off+i*6+1,none⟩=some (.string (mtx (m+1))):=(c5 _).trans gB;have x9:y5.cell? ⟨b,off+i*6+2,none⟩=some (.slice Y q2.length Z):=(c5 _).trans gD;have yc:y5.cell? ⟨b,off+i*6+3,none⟩=some (.bool (mbo ((dC (m+1+1) q2).2))):=(c5 _).trans gF;have yu:y5.cell? ⟨b,off+i*6+4,none⟩=some (.slice ae q4.length ah):=(c5 _).trans gT;have y7:y5.cell? ⟨b,off+i*6+5,none⟩=some (.slice ai q5.length aj):=(c5 _).trans gV;have s5:=R5.o.size;clear e5 c5 fu gB gD gF gT gV;go_wp2_with fail;refine⟨⟨i+1,(dA ((dL ((dC (m+1+1) q2).2+1) q4).2) q5).2,by omega,Kz ?_,?_,?_,by go_num,rfl⟩,by simp[intOf];omega⟩
   ·rw[dF KG k xs X,←hm.o,←HY.o];rfl
   ·rw[iA KG k xs X,←hm.o,←HY.o]
    refine HP.o _ [.string (mtx (m)),.string (mtx (m+1)),.slice Y q2.length Z,.bool (mbo ((dC (m+1+1) q2).2)),.slice ae q4.length ah,.slice ai q5.length aj] (KG m (q0,q1,q2,q3,q4,q5)).1 (by repeat(first|with_reducible refine Foc.set ?_ (by simp[Rd.n]<;>omega) (by simp[Rd.n]<;>omega) _|with_reducible refine Foc.gr ?_ J (Gr.ext (Gr.refl _) _)|exact F5.o)) (fun j v U=>?_) (pI (mtx (m)) (mtx (m+1)) ((dC (m+1+1) q2).1) (mbo ((dC (m+1+1) q2).2)) ((dL ((dC (m+1+1) q2).2+1) q4).1) ((dA ((dL ((dC (m+1+1) q2).2+1) q4).2) q5).1) za.o zb.o (SlR.wr oL.o (fp:=[b]) (by repeat(first|with_reducible refine Wr.setCell ?_ (by simp) _|with_reducible refine Wr.gr ?_ (Gr.ext (Gr.refl _) _)|exact Wr.refl _ _)) (by have:=K.o;intro c hc q;simp at q;subst q;exact this hc)) (SlR.wr o5.o (fp:=[b]) (by repeat(first|with_reducible refine Wr.setCell ?_ (by simp) _|with_reducible refine Wr.gr ?_ (Gr.ext (Gr.refl _) _)|exact Wr.refl _ _)) (by have:=O.o;intro c hc q;simp at q;subst q;exact this hc)) (SlR.wr o9.o (fp:=[b]) (by repeat(first|with_reducible refine Wr.setCell ?_ (by simp) _|with_reducible refine Wr.gr ?_ (Gr.ext (Gr.refl _) _)|exact Wr.refl _ _)) (by have:=T.o;intro c hc q;simp at q;subst q;exact this hc)))
    have en:off+i*Rd.n (aW d)=off+i*6:=rfl;rw[en]
    match j,U with
    |0,U=>obtain rfl:=Option.some.inj U;exact w9
    |1,U=>obtain rfl:=Option.some.inj U;exact xc
    |2,U=>obtain rfl:=Option.some.inj U;exact x9
    |3,U=>obtain rfl:=Option.some.inj U;exact yc
    |4,U=>obtain rfl:=Option.some.inj U;exact yu
    |5,U=>obtain rfl:=Option.some.inj U;exact y7
   ·exact HW.o.trans (Wr.sub (Foc.wr (b:=b) (lo:=off+i*Rd.n (aW d)) (n:=Rd.n (aW d)) (fq:=([]++([]++(B++([]++(D++I)))))) (by repeat(first|with_reducible refine Foc.set ?_ (by simp[Rd.n]<;>omega) (by simp[Rd.n]<;>omega) _|with_reducible refine Foc.gr ?_ J (Gr.ext (Gr.refl _) _)|exact F5.o))) (fun c hc=>by
     rcases List.mem_cons.1 hc with rfl|hc
     ·exact y9
     ·exact vL.o c hc))
  ·have zl:i=xs.length:=by omega
   subst zl;have gX:=HS.o;rw[jb] at gX;have ik:=hm.o;rw[List.take_length] at ik;have zn:=Kz gX;have zo:=Kz ik;clear gX ik HS hm
   go_wp2
   go_ret;exact⟨aC zo.o,zn.o,HW.o⟩
def KJ(k:Int):(af d)→(af d)×Int
 |(q0,q1)=>(((fA (k) q0).1,(kE ((fA (k) q0).2) q1).1),(kE ((fA (k) q0).2) q1).2)
theorem uZ(k:Int)(x:(af d)):k≤(KJ k x).2∧(KJ k x).2≤k+16*(1+aP x):=by
 obtain⟨q0,q1⟩:=x;have h:=uL (k) q0;have q:=Ae ((fA (k) q0).2) q1;have hw:aP (q0,q1)=(dH q0)+(gz q1):=rfl;simp only[KJ] at*;omega
theorem vo(fp:List Nat)(cs:Array Value)(x:(af d))(k:Int)(w:World)(X:Rd.rd fp w cs.toList x)(O:fp.Nodup)(h0:0<k)(h1:(KJ k x).2≤4398046511104):
  Calls Tryz.prog 18 #[.agg cs,.int .i64 k] w fun e w'=>e=.returned (.int .i64 (KJ k x).2)∧Rd.rd fp w' cs.toList (KJ k x).1∧Wr fp w w':=by
 have T:=Rd.lt X;obtain⟨q0,q1⟩:=x;obtain⟨bB,q,bH,B,rfl,ae,U,V⟩:=aB q0 q1 X;rw[ae] at T O X ⊢;clear ae;have m1:(kE ((fA (k) q0).2) q1).2≤4398046511104:=h1;have N0:(q++(B)).Nodup:=by simpa only[nil_append,append_nil] using O
 have L0:∀c∈(q++(B)),c<w.heap.size:=by simpa only[nil_append,append_nil] using T
 obtain⟨I,N1,D⟩:=pF N0;have I:=I;have aj:=Kz (fun c (h:c∈q)=>L0 c (by simp[h]));have uq1:=N1;have J:=Kz (fun c (h1:c∈q) (h2:c∈B)=>D c h1 (by simp[h2]));have K:=Kz (fun c (h1:c∈B) (h2:c∈q)=>D c h2 (by simp[h1]));have ak:=Kz I;have au:=Kz uq1;have bL:=yL (k) q0;have bR:=Ci ((fA (k) q0).2) q1;have ax:=Kz U;obtain⟨ay,aZ,rfl,-,-,-⟩:=U.open;have bg:=Kz V;obtain⟨ah,ai,rfl,-,-,-⟩:=V.open;clear X T h1 O L0 U V I uq1 D N0;go_in;go_wp2_with fail;refine(vE q _ q0 (k) _ (ax.o.gr gd) ak.o (by omega) (by show(fA (k) q0).2≤_;omega)).mono ?_;rintro e y0 ⟨rfl,t0,r0⟩;have T0:=Kz t0;have D:=Kz r0;clear t0 r0;have W0:=Kz ((Gr.eF (by exact gd:Gr w (w.alloc (.cells #[.slice ay q0.length aZ,.slice ah q1.length ai] 39))) (q++(B))).trans (D.o.sub (fun c hc=>by simp[hc])));have Y:=Kz (SlR.wr (bg.o.gr gd) D.o K.o);have e0:=D.o.block w.heap.size (by simp) (fun h=>Nat.lt_irrefl _ (aj.o _ h));have c0:=fun(o:Nat)=>World.cell?_of_block (a:=⟨w.heap.size,o,none⟩) e0
 have bq:y0.cell? ⟨w.heap.size,1,none⟩=some (.slice ah q1.length ai):=(c0 _).trans (aJ rfl rfl);clear e0 c0;go_wp2_with fail;refine(yT B _ q1 ((fA (k) q0).2) _ Y.o au.o (by omega) (by show(kE ((fA (k) q0).2) q1).2≤_;omega)).mono ?_;rintro e y1 ⟨rfl,t1,r1⟩;have T1:=Kz t1;have R1:=Kz r1;clear t1 r1;have W1:=Kz (W0.o.trans (R1.o.sub (fun c hc=>by simp[hc])));have Z:=Kz (SlR.wr T0.o R1.o J.o);go_wp2_with fail;go_ret;refine⟨rfl,?_,W1.o.sub (fun c hc=>by simpa using hc)⟩;have hl:=rH ((fA (k) q0).1) ((kE ((fA (k) q0).2) q1).1) Z.o T1.o;exact hl
end Go.Proofs.YtleafadpfeibfaaGreat
