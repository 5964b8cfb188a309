/- Contracts and laws towards ReadsOf, part 33 of 54. No condition. -/
import Derived.Test.YtdhighcpmcdmmaaGreatFx23
set_option maxHeartbeats 32000000
set_option maxRecDepth 10000
set_option linter.unusedVariables false
set_option linter.unusedSimpArgs false
namespace Go.Proofs.YtdhighcpmcdmmaaGreat
open Go.RowKit
open _root_.List (append_nil range_succ)
open _root_.Nat (le_refl)
variable{d:Nat}
variable{t:List aT}{w:World}{k:Nat}{fg:List Nat}{cg:Array Value}
theorem bE.Kg{w0:World}(e:TypeId)(h:w0.heap.size≤w.heap.size){g:Nat}(q:g=w.heap.size){y:Int}(s:(Lit.int .i64 y).wf=true):bE (α:=Int) w0 e (w.alloc (.cells #[.int .i64 y] e)) (.slice (some ⟨g,0,none⟩) 1 1) [[]] [y]:=by
 subst q;exact⟨⟨[[.int .i64 y]],World.ownsRow_lit w #[.int .i64 y] 1 h (by decide) (by simp[Rd.n]),Els.one (rO s _)⟩,fun _ _=>by simp⟩
def KI(t:List aT)(k:Int):List Int:=match nth t k with|none=>[]|some n=>[n.1]
def iB(t:List aT)(i:Int):List Int:=match nth t i with|none=>[]|some n=>(i::n.2.2.2.2.2).flatMap (KI t)
theorem wo(h:k<t.length):KI t (k:Int)=[t[k].1]:=by unfold KI;rw[gG h]
theorem BK{k:Int}(h:k<0∨(t.length:Int) - 1<k):KI t k=[]:=by unfold KI;rw[jY h]
theorem Hl(t:List aT)(k:Int):(KI t k).length≤1:=by unfold KI;split<;>simp
theorem ES(t:List aT)(L:List Int):(L.flatMap (KI t)).length≤L.length:=by
 have:=uU (KI t) 1 L fun x _=>Hl t x
 omega
theorem Bg(h:k<t.length):iB t (k:Int)=((k:Int)::t[k].2.2.2.2.2).flatMap (KI t):=by unfold iB;rw[gG h]
theorem BL{k:Int}(h:k<0∨(t.length:Int) - 1<k):iB t k=[]:=by unfold iB;rw[jY h]
theorem Ah(h:gY t≤1048576)(q:k<t.length):t[k].2.2.2.2.2.length≤1048576:=by
 have s:fT t[k]≤wtL fT t:=dI fT t q;have B:fT t[k]=t[k].2.2.2.2.1.size+t[k].2.2.2.2.2.length:=rfl;have D:wtL fT t≤1048576:=h;omega
def vK(ss:List bC)(h:List Int)(s:ByteArray):Bool:=decide (0≤atS ss s)&&decide (0<h.getD (atS ss s).toNat 0)
def nU(ss:List bC)(h:List Int)(n:ByteArray)(r:aW d):Bool:=decide (r.2.1=n)&&r.2.2.1.all (vK ss h)
def mJ(g:af d)(h:List Int)(n:ByteArray):Bool:=g.2.any (nU g.1 h n)
theorem G8(ss:List bC)(n:ByteArray):atS ss n<ss.length∨atS ss n= -1:=by
 unfold atS;generalize(fun s:bC=>decide (s.1=n))=p
 induction ss with
 |nil=>right;rfl
 |cons x xs h=>
  simp only[idxOf,List.length_cons]
  split
  ·left;omega
  ·split<;>omega
def Kj(g:af d)(q:List Int)(n:ByteArray)(B:World)(k:Nat)(wr:World):Prop:=Gr B wr∧∀j (h:j<g.2.length),j<k→nU g.1 q n g.2[j]=false
theorem wS{fh:List Nat}{vh:Value}(g:af d)(n:ByteArray)(q:List Int)(w:World)(hg:Rd.rd fg w cg.toList g)(hh:SlR fh w vh q)(hlen:q.length=g.1.length):
  Qz 317 #[.agg cg,.string n,vh] w (.bool (mJ g q n)):=by
 have HH:=Kz hh;obtain⟨ah,kh,rfl,lq,lG,fe⟩:=hh.open;clear hh;have HG:=Kz hg;obtain⟨s,D,U,X,lV,aN,Y,l5,rfl,rfl,-,l6,ky,kz,aS,kE,kL⟩:=yt hg;have dG:=aS.op3;clear hg;have dL:=Kz (show q.length=s.length from hlen);clear hlen;delta Qz;go_in;go_wp2_with fail;generalize hB:(w.alloc (.cells #[.slice U s.length X,.slice aN D.length Y] 36))=B;have gB:Gr w B:=gb hB;obtain⟨aV,aZ⟩:=kb2 hB (w.heap.size) (.slice U s.length X) (.slice aN D.length Y);clear hB
 go_loopw [7] (fun s7 wr=>∃k:Nat,k≤D.length∧Kj (s,D) q n B k wr∧s7=.int .i64 k) (fun s7 _=>D.length - (intOf s7).toNat)
 case atStart=>exact⟨0,by omega,⟨Gr.refl _,fun j h hj=>by omega⟩,rfl⟩
 case round=>
  obtain⟨k,hk,⟨H,hT⟩,rfl⟩:=hrel
  rename World=>W1
  have HT:=Kz hT;have fu:=Kz H;have y0:=aV _ H;have y1:=aZ _ H;have bg:=blk y1;have Z:=gB.trans H;have fw:=Kz Z;clear hT H
  by_cases ae:k<D.length
  ·skip
   obtain⟨b,off,rfl,l7⟩:=dG k ae;obtain⟨q0,q1,q2,q3,q4,q5,bq,bB,l8,bD,bK,ma,bN,bV,mf,mh,fA,mo,mq,mr,cK,kQ,kS,mH,kT,kV,mZ,kX,kZ,fK,gm,gD,gF,gH,gM,gT⟩:=Lf aS ae Z;have dU:=cK.op3;have k0:(0:Int)≤(k:Int):=by omega
   have k1:(k:Int)<(D.length:Int):=by omega
   have iw:=zI1 k (by omega);have ik:=Kz cK;go_wp2_with fail;generalize ai:W1.alloc (.cells #[.string q0,.string q1,.slice bq q2.length bB,.bool q3,.slice bD q4.length bK,.slice bN q5.length bV] 112)=W2;have cO:Gr W1 W2:=gb ai;have v2:az W2 W1.heap.size 112 [.string q0,.string q1,.slice bq q2.length bB,.bool q3,.slice bD q4.length bK,.slice bN q5.length bV]:=by rw[←ai];exact az.new rfl
   have jN:=Kz (fu.o.trans cO);have jX:=Kz v2
   have aj:(q1.toList==n.toList)=decide (q1=n):=by
    by_cases h:q1=n
    ·subst h;simp
    ·rw[decide_eq_false h];simpa using fun e=>h (str_inj e)
   rw[aj];have j4:Ky (nU s q n D[k]=(decide (q1=n)&&q2.all (vK s q))):=Kz (by rw[←fA.o];rfl);clear ai cO v2 y0 y1 bg fK gm gD gF gH gM gT Z aj
   go_loopw [10,9] (fun au s9 wr=>∃(m:Nat) (gb:Bool),m≤q2.length∧Gr W2 wr∧Ky (gb=(decide (q1=n)&&(q2.take m).all (vK s q)))∧au=.int .i64 m∧s9=.bool gb) (fun au _ _=>q2.length - (intOf au).toNat)
   case atStart=>exact⟨0,decide (q1=n),by omega,Gr.refl _,Kz (by simp),rfl,rfl⟩
   case round=>
    obtain⟨m,gb,hm,O,dz,rfl,rfl⟩:=hrel
    rename World=>W3
    have T:=Kz (jN.o.trans O);have E:=Kz (gB.trans T.o);have y0:=aV _ T.o;have y1:=aZ _ T.o;have bg:=blk y1;have d2:=(jX.o.gr O).c 2;have nz:=blk d2;have J:=Kz O;clear O
    by_cases ax:m<q2.length
    ·obtain⟨bL,oL,rfl,nM⟩:=dU m ax
     have cL:=E.o.keep (ik.o.jl ax).1;have zL:=blk cL;have m0:(0:Int)≤(m:Int):=by omega
     have m1:(m:Int)<(q2.length:Int):=by omega
     have nO:=zI1 m (by omega);obtain⟨at_,I⟩:=nm (atS s q2[m]);have dW:=G8 s q2[m];rw[←I] at dW;have nP:-1≤at_:=by rw[I];exact qU _ _
     have HC:Ky (∀x:Ext,Qz 277 #[.agg #[.slice U s.length X,.slice (some ⟨b,off,none⟩) D.length Y],.string q2[m]] (W3.ext x) (.int .i64 at_)):=Kz (fun x=>by
      rw[I];exact sQ (s,D) q2[m] _ (Rd.gr HG.o (tg E)))
     have ay:=Kz (show(decide (q1=n)&&(q2.take (m+1)).all (vK s q))=(gb&&(decide (0≤at_)&&decide (0<q.getD at_.toNat 0))) by
      rw[List.take_succ_eq_append_getElem ax,List.all_append,dz.o,I];simp[vK,Bool.and_assoc])
     clear I;go_wp2_with fail;refine wg ?_
     repeat(go_big_quiet_step (first|(go_at_call 277;exact aG (HC.o _))))
     refine wq fun nx=>?_
     cases gb with
     |false=>
      go_wp2_with fail;exact⟨⟨m+1,false,by omega,J.o.trans gd,Kz (by rw[ay.o];rfl),by go_num,rfl⟩,by simp[intOf];omega⟩
     |true=>
      by_cases h0:0≤at_
      ·obtain⟨a,rfl⟩:∃a:Nat,at_=a:=⟨at_.toNat,by omega⟩
       have aL:a<q.length:=by have:=dL.o;omega
       obtain⟨bH,oH,rfl,nS⟩:=fe a aL;have cH:=E.o.keep (HH.o.fQ aL).1;have zH:=blk cH;have a1:(a:Int)<(q.length:Int):=by omega
       have K:=Kz (show(decide (q1=n)&&(q2.take (m+1)).all (vK s q))=decide (0<q[a]) by
        rw[ay.o,decide_eq_true h0];simp[List.getD_eq_getElem?_getD,List.getElem?_eq_getElem aL])
       go_wp2_with fail;refine(mV _ _ _).mono ?_;rintro e w' ⟨rfl,rfl⟩;have j5:max (a:Int) 0=(a:Int):=by omega
       rw[j5];go_wp2_with fail;exact⟨⟨m+1,decide (0<q[a]),by omega,J.o.trans gd,Kz K.o.symm,by go_num,rfl⟩,by simp[intOf];omega⟩
      ·have K:=Kz (show(decide (q1=n)&&(q2.take (m+1)).all (vK s q))=false by rw[ay.o,decide_eq_false h0];rfl)
       go_wp2_with fail;exact⟨⟨m+1,false,by omega,J.o.trans gd,Kz K.o.symm,by go_num,rfl⟩,by simp[intOf];omega⟩
    ·have ku:m=q2.length:=by omega
     subst ku;have dA:nU s q n D[k]=gb:=by rw[j4.o,dz.o,List.take_length]
     have dC:=Kz dA;clear dA
     cases gb with
     |true=>
      have HE:Ky (mJ (s,D) q n=true):=Kz (by
       unfold mJ;rw[List.any_eq_true];exact⟨D[k],List.getElem_mem ae,dC.o⟩)
      go_wp2_with fail;go_ret;exact⟨aa HE.o.symm,E.o⟩
     |false=>
      go_wp2_with fail;refine⟨⟨k+1,by omega,⟨T.o,fun j h nZ=>?_⟩,by go_num⟩,by simp[intOf];omega⟩
      by_cases eH:j<k
      ·exact HT.o j h eH
      ·obtain rfl:j=k:=by omega
       exact dC.o
  ·have HE:Ky (mJ (s,D) q n=false):=Kz (by
    unfold mJ;rw[List.any_eq_false];intro r hr
    obtain⟨j,hj,rfl⟩:=List.mem_iff_getElem.1 hr;have:=HT.o j hj (by have:j<D.length:=hj;omega);simpa using this)
   go_wp2_with fail;go_ret;exact⟨aa HE.o.symm,fw.o⟩
def ry(g:af d)(out:List Int)(r:Int)(nx:List Int)(i:Nat):List Int:=
 if out.getD i 0=0∧mJ g out ((g.1.getD i (⟨#[]⟩,[])).1)=true then nx.set i r else nx
def mP(g:af d)(out:List Int)(r:Int)(k:Nat):List Int:=(List.range k).foldl (ry g out r) out
def hts(g:af d)(k:Nat):List Int:=(List.range k).foldl (fun out (j:Nat)=>mP g out ((j:Int)+1) g.1.length) (List.replicate g.1.length 0)
theorem tL(g:af d)(out:List Int)(r:Int)(k:Nat):mP g out r (k+1)=ry g out r (mP g out r k) k:=by
 unfold mP;rw[range_succ,List.foldl_append];rfl
theorem wD(g:af d)(k:Nat):hts g (k+1)=mP g (hts g k) ((k:Int)+1) g.1.length:=by
 unfold hts;rw[range_succ,List.foldl_append];rfl
theorem Gx{g:af d}{out:List Int}{r M:Int}(s:0≤r∧r≤M){nx:List Int}{i:Nat}(h:∀y∈nx,0≤y∧y≤M):(ry g out r nx i).length=nx.length∧∀y∈ry g out r nx i,0≤y∧y≤M:=by
 unfold ry
 split
 ·refine⟨by simp,fun y q=>?_⟩
  rcases List.mem_or_eq_of_mem_set q with q|rfl
  ·exact h y q
  ·exact s
 ·exact⟨rfl,h⟩
theorem Bf{g:af d}{out:List Int}{r M:Int}(s:0≤r∧r≤M)(h:∀y∈out,0≤y∧y≤M):∀k,(mP g out r k).length=out.length∧∀y∈mP g out r k,0≤y∧y≤M:=by
 intro k
 induction k with
 |zero=>exact⟨rfl,h⟩
 |succ k q=>
  rw[tL];have:=Gx (g:=g) (out:=out) s (i:=k) q.2;exact⟨this.1.trans q.1,this.2⟩
theorem Ay(g:af d):∀k,k≤g.1.length→(hts g k).length=g.1.length∧∀y∈hts g k,0≤y∧y≤(g.1.length:Int):=by
 intro k
 induction k with
 |zero=>exact fun _=>⟨by simp[hts],fun y s=>by have:=(List.mem_replicate.1 s).2;omega⟩
 |succ k B=>
  intro D
  have h:=B (by omega);rw[wD];have q:=Bf (g:=g) (out:=hts g k) (r:=(k:Int)+1) (M:=g.1.length) (by omega) h.2 g.1.length;exact⟨q.1.trans h.1,q.2⟩
theorem lF.slR{rest:List Value}{b:Nat}{xs:List Int}(h:lF rest w b xs)(hw:∀y∈xs,0≤y∧y≤140737488351232)(E:xs.length≤1048576){cap:Nat}(hc:xs.length≤cap):∃fq,SlR fq w (.slice (some ⟨b,0,none⟩) xs.length cap) xs∧∀c∈fq,c=b:=by
 by_cases s:xs=[]
 ·subst s
  exact⟨[],⟨_,cap,rfl,hc,by simp,.inl ⟨rfl,rfl⟩⟩,by simp⟩
 ·refine⟨[b],⟨_,cap,rfl,hc,by unfold bn;omega,.inr ⟨b,0,List.replicate xs.length [],s,rfl,by simp,by simp,fun j q=>az.frozen h _,fun i B D=>?_⟩⟩,by simp⟩
  refine⟨[.int .i64 xs[i]],fun j v q=>?_,by have:=hw _ (List.getElem_mem B);simpa using rO (jm this.1 this.2) w⟩
  cases j with
  |zero=>simp at q;subst q;simpa[Rd.n] using h.cell B
  |succ j=>simp at q
def Kb(g:af d)(w:World)(e:Ending)(w':World):Prop:=∃v fq,e=.returned v∧SlR fq w' v (hts g g.1.length)∧(∀c∈fq,w.heap.size≤c)∧Gr w w'
theorem lF.I9{w0:World}{v:Value}{fps:List (List Nat)}{xs:List Int}(h:bE (α:=Int) w0 3 w v fps xs)(q:xs≠[])(E:xs.length≤1048576):∃g cap rest,v=.slice (some ⟨g,0,none⟩) xs.length cap∧w0.heap.size≤g∧xs.length≤cap∧lF rest w g xs:=by
 obtain⟨g,cap,rest,rfl,s,-,B⟩:=lF.JI h q;obtain⟨fp,D,-⟩:=h.slR (by unfold bn;omega);obtain⟨a,c,he,hc,-⟩:=D;injection he with _ _ H;exact⟨g,cap,rest,rfl,s,by omega,B⟩
theorem yg(g:af d)(w:World)(hg:Rd.rd fg w cg.toList g)(hn:0<g.1.length)(bN:g.1.length≤1000):
  Calls Tryz.prog 278 #[.agg cg] w (Kb g w):=by
 obtain⟨i0,hi,aN,aS,aV⟩:=info_parts Tryz.kJ;have J:=fun(W:World)=>run_make (P:=Tryz.prog) W 29 3 i0 (.int .i64 0) Tryz.underlying29 hi aN .i64 .i64 g.1.length g.1.length (by omega) (by omega) (by rw[aV];omega) (by omega)
 have HZ:=Kz (And.intro hi (And.intro aN (And.intro aS aV)));rw[aS] at J;clear hi aN aS aV;simp only[Int.toNat_natCast,Nat.mul_one] at J;have ae:=Kz (fun W:World=>jZ.made W g.1.length 3);have bV:(Value.int .i64 0).cells=#[.int .i64 0]:=rfl;rw[bV] at J;generalize madeCells #[.int .i64 0] g.1.length=C1 at J ae;clear bV;have HG:=Kz hg;obtain⟨q,D,ah,T,l5,U,X,l6,rfl,rfl,-,cK,kS,kT,l7,kV,kX⟩:=yt hg;have gF:=cK.op3;clear hg;have l8:0<q.length:=hn;have kZ:q.length≤1000:=bN
 change Ky (∀W:World,jZ (W.alloc (.cells C1 3)) W.heap.size 3 (List.replicate q.length 0)) at ae
 change ∀W:World,_=Result.ok (Value.slice _ q.length q.length) _ at J
 clear hn bN;go_in;go_wp2_with fail;generalize hB:(w.alloc (.cells #[.slice ah q.length T,.slice U D.length X] 36)).alloc (.cells C1 3)=B;have gB:Gr w B:=gb hB;have sB:B.heap.size=w.heap.size+2:=by rw[←hB];simp
 have b0:B.cell? ⟨w.heap.size,0,none⟩=some (.slice ah q.length T):=by rw[←hB];exact Gr.keep gd (aJ (A:=w) rfl rfl)
 have b1:B.cell? ⟨w.heap.size,1,none⟩=some (.slice U D.length X):=by rw[←hB];exact Gr.keep gd (aJ (A:=w) rfl rfl)
 have d0:lF [] B (w.heap.size+1) (hts (q,D) 0):=by
  rw[←hB];have h:=ae.o (w.alloc (.cells #[.slice ah q.length T,.slice U D.length X] 36));rw[show(w.alloc (.cells #[.slice ah q.length T,.slice U D.length X] 36)).heap.size=w.heap.size+1 by simp] at h;unfold lF;rw[append_nil];exact h
 have dz:=Kz gB;have dA:=Kz b0;have gT:=Kz b1;have ik:=Kz d0;clear hB gB b0 b1 d0 J ae
 go_loopw [4,3] (fun s4 s3 wr=>∃(k b cap:Nat) (rest:List Value),k≤q.length∧Ky (Gr B wr)∧Ky (lF rest wr b (hts (q,D) k))∧w.heap.size<b∧q.length≤cap∧s4=.int .i64 ((k:Int)+1)∧s3=.slice (some ⟨b,0,none⟩) q.length cap) (fun s4 _ _=>q.length+1 - (intOf s4).toNat)
 case atStart=>exact⟨0,w.heap.size+1,q.length,[],by omega,Kz (Gr.refl _),ik,by omega,le_refl _,rfl,rfl⟩
 case round=>
  obtain⟨k,bo,cap,rest,hk,ai,aj,ma,hcap,rfl,rfl⟩:=hrel
  rename World=>W1
  have y0:=ai.o.keep dA.o;have dC:=blk y0;have aZ:=Ay (q,D) k hk;have au:(hts (q,D) k).length=q.length:=aZ.1;have ax:∀y∈hts (q,D) k,0≤y∧y≤(q.length:Int):=aZ.2;obtain⟨s,Z⟩:=nm (hts (q,D) k);rw[←Z] at aj au ax;have bg:=Kz Z;have iw:=Kz ax;have E:=Kz au;obtain⟨fo,bq,dG⟩:=aj.o.slR (fun y hy=>by have:=ax y hy;omega) (by omega) (cap:=cap) (by omega);rw[au] at bq;have mf:=aj.o.lt;have bB:=Kz bq;have dL:=Kz dG;clear aZ Z ax bq dG
  by_cases H:k<q.length
  ·have jN:(k:Int)+1≤(q.length:Int):=by omega
   have mh:IntKind.i64.wrap ((k:Int)+1+1)=(k:Int)+1+1:=IntWalk.i64_in _ (by omega);obtain⟨jX,hsrc,-,-⟩:=eT.qL bB.o;have dU:=hsrc.flat nK;have gH:=Kz hsrc;have j4:=Kz dU;have dW:s≠[]:=fun e=>by have:=E.o;rw[e] at this;simp at this;omega
   have j5:=Kz dW;clear hsrc dU dW au
   go_wp2_with (first|(at_builtin;refine eU (α:=Int) (wg:=W1) (w0:=W1) (Gr.alloc (Gr.refl _) _) (le_refl _) (by simp) rfl _ _ 29 rfl 3 i0 (.int .i64 0) 8 Tryz.underlying29 HZ.o.1 HZ.o.2.1 HZ.o.2.2.1 HZ.o.2.2.2 rfl _ [] [] (by rfl) (bE.kF (α:=Int) (w0:=W1) (w:=W1) 3 (le_refl _) rfl) _ jX s (by rfl) (gH.o.gr gd) (fun b _=>by rw[j4.o];simp) (by rw[E.o];unfold maxLen;simp;omega) (by rw[E.o];simp;omega) ?_;intro v3 w3 h1 h2 h3 h4;rw[List.nil_append,List.nil_append] at h1;obtain⟨g3,ku,ay,eH,mo,fe,fu⟩:=lF.I9 h1 j5.o (by rw[E.o];omega);rw[E.o] at eH fe;subst eH;have ky:=Kz fu;have bD:=Kz h4;clear h1 h2 h3 h4 fu))
   have lq:=ai.o.size;clear y0 dC
   go_loopw [6] (fun s6 wr=>∃i:Nat,i≤q.length∧Ky (Wr [g3] w3 wr)∧Ky (lF ay wr g3 (mP (q,D) s ((k:Int)+1) i))∧s6=.int .i64 i) (fun s6 _=>q.length - (intOf s6).toNat)
   case atStart=>exact⟨0,by omega,Kz (Wr.refl _ _),ky,rfl⟩
   case round=>
    obtain⟨i,hi,K,O,rfl⟩:=hrel
    rename World=>W4
    have aL:=Kz (Gr.wr (ai.o.trans bD.o) K.o (fun c hc=>by rw[List.mem_singleton.1 hc];omega));have bH:=Kz (dz.o.trans aL.o);have y0:=aL.o.keep dA.o;have y1:=aL.o.keep gT.o;have dC:=blk y0;have gM:=Kz ((bB.o.gr bD.o).wr K.o (fun c hc hm=>by have h1:=dL.o c hc;have h2:=List.mem_singleton.1 hm;omega))
    have fw:(mP (q,D) s ((k:Int)+1) i).length=q.length:=by
     rw[(Bf (g:=(q,D)) (out:=s) (r:=(k:Int)+1) (M:=(q.length:Int)) (by omega) iw.o i).1,E.o]
    have fA:=Kz fw;clear fw
    by_cases H:i<q.length
    ·have fK:=bH.o
     have bK:i<s.length:=by rw[E.o];exact H
     have cO:W4.cell? ⟨bo,i,none⟩=some (.int .i64 s[i]):=K.o.aO (bD.o.keep (aj.o.cell bK)) (by simp;omega);have zO:=blk cO;have mq:(0:Int)≤(i:Int):=by omega
     have mr:(i:Int)<(q.length:Int):=by omega
     have mH:=zI1 i (by omega);obtain⟨b,off,rfl,mZ⟩:=gF i H;obtain⟨q0,q1,nz,nM,nO,nP,kz,nS,nZ,oh,lG,lV,oo,oq,ow⟩:=K9 cK H fK
     have Y:Ky (mP (q,D) s ((k:Int)+1) (i+1)=if s[i]=0∧mJ (q,D) s q0=true then(mP (q,D) s ((k:Int)+1) i).set i ((k:Int)+1) else mP (q,D) s ((k:Int)+1) i):=Kz (by
      rw[tL];unfold ry;have e1:s.getD i 0=s[i]:=by simp[List.getD_eq_getElem?_getD,List.getElem?_eq_getElem bK]
      have e2:((q,D):af d).1.getD i (⟨#[]⟩,[])=q[i]:=by simp[List.getD_eq_getElem?_getD,List.getElem?_eq_getElem H]
      rw[e1,e2,←kz.o])
     obtain⟨oi,gm⟩:=nm (s[i]);rw[←gm] at cO Y;obtain⟨rb,bL⟩:=nm (mJ (q,D) s q0)
     have HC:Ky (∀x:Ext,Qz 317 #[.agg #[.slice (some ⟨b,off,none⟩) q.length T,.slice U D.length X],.string q0,.slice (some ⟨bo,0,none⟩) q.length cap] (W4.ext x) (.bool rb)):=Kz (fun x=>by
      rw[bL];exact wS (q,D) q0 s _ (Rd.gr HG.o (tg bH)) (gM.o.gr gd) E.o)
     rw[←bL] at Y;clear gm bL bK fK;have d4:=O.o.cell (k:=i) (by rw[fA.o];exact H);have oz:=blk d4;have oG:=az.frozen O.o i
     by_cases h0:oi=0
     ·have e0:(oi==0)=true:=by simp[h0]
      go_wp2_with fail;refine wg ?_
      repeat(go_big_quiet_step (first|(go_at_call 317;exact aG (HC.o _))))
      refine wq fun nx=>?_
      cases rb with
      |true=>
       have I:=Kz (Y.o.trans (if_pos ⟨h0,rfl⟩));go_wp2_with fail;exact⟨⟨i+1,by omega,Kz ((K.o.setCell (List.mem_singleton.2 rfl) _).gr (Gr.ext (Gr.refl _) _)),Kz (by rw[I.o];exact az.gr (lF.set O.o (by rw[fA.o];exact H) _) (Gr.ext (Gr.refl _) _)),by go_num⟩,by simp[intOf];omega⟩
      |false=>
       have I:=Kz (Y.o.trans (if_neg (fun h=>by cases h.2)));go_wp2_with fail;exact⟨⟨i+1,by omega,Kz (K.o.gr (Gr.ext (Gr.refl _) _)),Kz (by rw[I.o];exact az.gr O.o (Gr.ext (Gr.refl _) _)),by go_num⟩,by simp[intOf];omega⟩
     ·have e0:(oi==0)=false:=by simpa using h0
      have I:=Kz (Y.o.trans (if_neg (fun h=>h0 h.1)));clear h0;go_wp2_with fail;refine wg ?_
      repeat(go_big_quiet_step (fail))
      refine wq fun nx=>?_
      go_wp2_with fail;exact⟨⟨i+1,by omega,Kz (K.o.gr (Gr.ext (Gr.refl _) _)),Kz (by rw[I.o];exact az.gr O.o (Gr.ext (Gr.refl _) _)),by go_num⟩,by simp[intOf];omega⟩
    ·have kE:i=q.length:=by omega
     subst kE;have gD:hts (q,D) (k+1)=mP (q,D) s ((k:Int)+1) q.length:=by rw[wD,←bg.o]
     have kL:=Kz gD;clear gD;go_wp2_with fail;refine⟨⟨k+1,g3,ku,ay,by omega,aL,Kz (by rw[kL.o];exact O.o),by omega,fe,?_,rfl⟩,by simp[intOf];omega⟩
     go_num
  ·have kQ:k=q.length:=by omega
   subst kQ;have jN:¬((q.length:Int)+1≤(q.length:Int)):=by omega
   go_wp2_with fail;go_ret;refine⟨_,fo,rfl,?_,fun c hc=>by have:=dL.o c hc;omega,dz.o.trans ai.o⟩;rw[←bg.o];exact bB.o
set_option maxRecDepth 100000 in
theorem uQ{fr:List Nat}{cr:Array Value}(g:af d)(r:aW d)(w:World)(hg:Rd.rd fg w cg.toList g)(hr:Rd.rd fr w cr.toList r)(hl:aP g≤1048576)(hn:r.2.2.1.length≤1048576):
  Calls Tryz.prog 286 #[.agg cg,.agg cr] w (p8 w (mg g r)):=by
 obtain⟨i0,hi⟩:=info_parts Tryz.nX;have HZ:=Kz hi;clear hi;have dL:=Kz hl;clear hl;have HG:=Kz hg;obtain⟨E,X,dU,dW,qX,eH,fe,rf,rfl,rfl,-,rq,oK,oL,s,oN,oV⟩:=yt hg;clear hg;have HR:=Kz hr;obtain⟨I,J,q,K,O,T,fu,fw,rD,fA,fK,rE,gm,gD,rR,rfl,rfl,-,rT,sw,sG,oW,o9,sH,pG,pM,sN,pR,pV⟩:=KV hr;clear hr;have sO:q.length≤1048576:=hn;have sW:IntKind.i64.wrap ((q.length:Int)+1)=(q.length:Int)+1:=IntWalk.i64_in _ (by omega);clear hn;go_in;go_wp2_with fail;generalize hB:((w.alloc (.cells #[.slice dU E.length dW,.slice eH X.length fe] 36)).alloc (.cells #[.string I,.string J,.slice fu q.length fw,.bool K,.slice fA O.length fK,.slice gm T.length gD] 112))=B;have gB:Gr w B:=gb hB;obtain⟨kz,kE⟩:=kb2 hB (w.heap.size) (.slice dU E.length dW) (.slice eH X.length fe);obtain⟨kL,kQ,kS,kT,kV,kX⟩:=kb6 hB (w.heap.size+1) (.string I) (.string J) (.slice fu q.length fw) (.bool K) (.slice fA O.length fK) (.slice gm T.length gD);have sB:B.heap.size=w.heap.size+2:=szB hB;clear hB
 go_loopw [17,5] (fun s8 s7 wr=>∃(p:Nat) (fps:List (List Nat)),p≤q.length+1∧Ky (fps.flatten=[])∧Gr B wr∧bE (α:=ag) B 132 wr s7 fps ((List.range p).flatMap (kU (E,X) (I,J,q,K,O,T)))∧s8=.int .i64 p) (fun s8 _ _=>q.length+1 - (intOf s8).toNat)
 case atStart=>exact⟨0,[],by omega,Kz rfl,gd,bE.kF (α:=ag) (w0:=B) (w:=B) 132 (le_refl _) (by omega),rfl⟩
 case round=>
  obtain⟨p,fps,hp,HF,s,hown,rfl⟩:=hrel;obtain⟨os,ay⟩:=nm ((List.range p).flatMap (kU (E,X) (I,J,q,K,O,T)));rw[←ay] at hown
  have kZ:os.length≤1048576*p:=by
   rw[ay];exact zN dL.o p
  have aZ:=Kz ay.symm;have lq:=Kz kZ;clear ay
  rename World=>W1
  have lG:=Kz s;have HO:=Kz hown;obtain⟨ra,rc,Z⟩:=hown.form;subst Z;have y0:=kz _ s;have y1:=kE _ s;have y2:=kL _ s;have y3:=kQ _ s;have y4:=kS _ s;have y5:=kT _ s;have y6:=kV _ s;have y7:=kX _ s;have lV:=blk y2;have gF:=gB.trans s;have bg:=Kz gF;have l5:=Kz (show∀b∈(Value.slice ra os.length rc).ownBlock.toList,B.heap.size≤b∧b<W1.heap.size from fun b H=>hown.base b (by simpa using H));clear hown
  by_cases aL:p≤q.length
  ·have p9:(p:Int)≤(q.length:Int):=by omega
   have qo:(p:Int)<(q.length:Int)+1:=by omega
   have p0:(0:Int)≤(p:Int):=by omega
   have tJ:=zI1 p (by omega);obtain⟨S,hS⟩:=nm (j6 (I,J,q,K,O,T) (p:Int));obtain⟨Y,hY⟩:=nm ((bW E S).getD dE);have l6:=Kz (show Y.2.length≤1048576 by rw[hY];exact tX dL.o S);have l7:=Kz (show kU (E,X) (I,J,q,K,O,T) p=jr (if p=0 then 2 else 1) (p:Int) Y.2 by rw[hY,hS];rfl);have l8:=Kz hY;have ma:=Kz hS;clear hY hS
   go_upto_if 21 with fail
   go_cut [7] (fun sm wr=>∃D:Int,sm=.int .i64 D∧Ky (D=if p=0 then 2 else 1)∧W1=wr)
   case first=>
    by_cases hz:p=0
    ·have mf:((p:Int)==0)=true:=by simp[hz]
     go_wp2_with fail;go_meet;exact⟨2,rfl,Kz (by rw[if_pos hz]),rfl⟩
    ·have mf:((p:Int)==0)=false:=by simpa using hz
     go_wp2_with fail;go_meet;exact⟨1,rfl,Kz (by rw[if_neg hz]),rfl⟩
   case rest=>
    obtain⟨D,rfl,ku,mh⟩:=hcut;subst mh;have mo:=Kz (show kU (E,X) (I,J,q,K,O,T) p=jr D (p:Int) Y.2 by rw[l7.o,←ku.o])
    go_upto_region 8 with fail
    have mq:=fun(w':World) (h:Gr W1 w')=>(⟨h.keep y0,h.keep y1,h.keep y2,h.keep y3,h.keep y4,h.keep y5,h.keep y6,h.keep y7⟩:_∧_∧_∧_∧_∧_∧_∧_)
    clear gF
    go_cut [8] (fun sp wx=>mK w W1 Y sp wx)
    case first=>
     go_region_held3 (fun w'=>Gr W1 w') (exact ga)
      (first|(go_at_call 210;refine(jF (I,J,q,K,O,T) (p:Int) _ (Rd.gr HR.o (bg.o.trans ga))).mono ?_;rintro e w' ⟨rfl,x2,rfl⟩;rw[←ma.o])|(go_at_call 94;refine(dY (E,X) S _ (Rd.gr HG.o (bg.o.trans ga))).mono ?_;rintro e w' ⟨es,fq,rfl,hr,gH,x3,rfl⟩;obtain⟨s0,s1,bB,bD,au,bH,rfl,mr,mH,ax,qD,qE⟩:=Lg (x:=(bW E S).getD dE) hr;have mZ:=Kz bH;have uh:=Lt bH hr;have bK:=ax.op3;clear hr bH;obtain⟨bb,bL⟩:∃b:Bool,b=(bW E S).isSome:=⟨_,rfl⟩;rw[←bL];have ui:=Kz bL;clear bL;have nz:=Kz gH;clear gH))
     all_goals
      go_wp2_with fail;go_meet;have hY:Y=(s0,s1):=l8.o.trans mZ.o.symm;subst hY;have aN:∀c∈au,c<w.heap.size∨_≤c:=fun c hc=>(nz.o c (by rw[mr.o];simpa using hc)).imp (Rd.lt HG.o c) id
      refine⟨_,.slice bB s1.length bD,au,rfl,gd,?_,?_,?_,mH,by first|omega|(simp;done)|(simp;omega),fun c hc=>(aN c hc).imp id (fun h=>by simp at h;omega)⟩
      ·go_simp
      ·go_simp
      ·first
        |(refine ax.gr ?_;(repeat(first|exact Gr.refl _|apply Gr.ext|apply Gr.alloc|apply Gr.drew));done)
        |((with_reducible refine ax.mono (dO ?_));exact fun c hc e=>by subst e;have:=aN _ hc;simp at this;omega)
        |((with_reducible refine ax.mono (dM ?_));exact fun c hc e=>by subst e;have:=aN _ hc;simp at this;omega)
        |((with_reducible refine ax.mono (iR ?_));exact fun c hc e=>by subst e;have:=aN _ hc;simp at this;omega)
    case rest=>
     obtain⟨gb,v8,au,rfl,g2,d0,nM,gM,um,nO,gT⟩:=hcut;obtain⟨s0,s1⟩:=Y;obtain⟨bB,bD,rfl,-,-,-⟩:=gM.open
     rename World=>W2
     clear mq y0 y1 y2 y3 y4 y5 y6 y7 lV;have ik:=Kz (show s1.length≤1048576 from l6.o);have qG:s1.length≤1048576:=ik.o;have nP:=Kz (lG.o.trans g2);have iw:=HO.o.gr g2;have nS:=Kz nM;have nZ:=Kz gM
     have ky:=Kz (show∀b∈(Value.slice ra os.length rc).ownBlock.toList,b≠gb∧b∉au from fun b H=>by
      have h1:=l5.o b H;have h2:=gB.size;exact⟨by omega,fun hm=>by have:=gT b hm;omega⟩)
     clear gT g2 nO d0;go_wp2_with fail
     go_loopw [33,5] (fun bN s7 wr=>∃j:Nat,j≤s1.length∧OfX B gb (.slice bB s1.length bD) au s1 (os++jr D (p:Int) (s1.take j)) s7 wr∧bN=.int .i64 j) (fun bN _ _=>s1.length - (intOf bN).toNat)
     case atStart=>exact⟨0,by omega,⟨fps,HF.o,nP.o,by rw[List.take_zero];show bE _ _ _ _ _ (os++[]);rw[append_nil];exact iw,nS.o,nZ.o,ky.o⟩,rfl⟩
     case round=>
      obtain⟨j,hj,⟨ae,bV,jN,hown,jX,cK,cO⟩,rfl⟩:=hrel;obtain⟨U,ah⟩:=nm (os++jr D (p:Int) (s1.take j));rw[←ah] at hown
      have qN:U.length≤1048576*p+1048576:=by
       rw[ah,List.length_append];have h1:=oI D (p:Int) (s1.take j);have h2:(s1.take j).length≤s1.length:=by rw[List.length_take];omega
       have h3:=ik.o;have h4:=lq.o;omega
      have ai:=Kz ah;have dz:=Kz bV;have aS:=Kz jN;have dA:=Kz jX;have aV:=Kz cK;have aj:=Kz cO;clear bV jN jX cK cO ah
      rename World=>W3
      have dC:=Kz hown;obtain⟨rb,rd,Z⟩:=hown.form;subst Z;have c3:=dA.o;have uq:=blk c3;clear hown iw
      by_cases aL:j<s1.length
      ·have dG:=aV.o
       obtain⟨a',c',he,o1,o2,bK⟩:=dG.open;injection he with e1 e2 e3;subst e1 e3;obtain⟨bq,qR,rfl,qV⟩:=bK j aL;obtain⟨q0,q1,q2,q3,oh,uw,j4,oo,oq,uL,uR,uW,uZ,ve⟩:=K5 dG aL (Gr.refl _);have HQ:=Kz j4;have j5:=Kz (show jr D (p:Int) (s1.take (j+1))=jr D (p:Int) (s1.take j)++(if q2=D then[((p:Int),q0)] else[]) by rw[pg aL,←oh.o]);have j0:(0:Int)≤(j:Int):=by omega
       have j1:(j:Int)<(s1.length:Int):=by omega
       have vo:=zI1 j (by omega);clear j4 oo oq dG
       by_cases hm:q2=D
       ·have ow:(q2==D)=true:=by simp[hm]
        have HX:=Kz (show os++jr D (p:Int) (s1.take (j+1))=U++[((p:Int),q0)] by rw[j5.o,if_pos hm,ai.o,List.append_assoc]);clear hm
        go_wp2_with (first|(at_builtin;refine eU (α:=ag) (wg:=B) (w0:=B) (tg aS) (le_refl _) (tg aS).size rfl _ _ 129 rfl 132 i0 _ _ Tryz.underlying129 HZ.o.1 HZ.o.2.1 HZ.o.2.2.1 HZ.o.2.2.2 rfl _ ae U (by rfl) (dC.o.gr gd) _ [[]] [((p:Int),q0)] (by rfl) (eT.one (by simp) (bO _ q0 (jm (by omega) (by omega)) HQ.o)) (fun b _=>by simp) (by unfold maxLen;simp;omega) (by simp;omega) ?_;intro v3 w3 h1 h2 h3 h4;have K1:=Kz h1;have K4:=Kz h4;have K2:=Kz ((show Gr W3 _ from gd).eF _ |>.trans h2);have K3:=Kz (show∀b∈v3.ownBlock.toList,b∈(Value.slice rb U.length rd).ownBlock.toList∨W3.heap.size≤b from fun b H=>h3.elim (fun e=>.inl (by rw[e] at H;exact H)) (fun e=>.inr (by rw[e] at H;simp at H;omega)));clear h1 h2 h3 h4))
        refine⟨⟨j+1,by omega,⟨ae++[[]],by rw[List.flatten_append,dz.o];rfl,K4.o,by rw[HX.o];exact K1.o,K2.o.aO dA.o (fun hm=>(aj.o _ hm).1 rfl),aV.o.wr K2.o (fun b H hm=>(aj.o b hm).2 H),fun b H=>?_⟩,by go_num⟩,by simp[intOf];omega⟩;rcases K3.o b H with h|h
        ·exact aj.o b h
        ·have h9:=aV.o.lt
         exact⟨by omega,fun hm=>by have:=h9 b hm;omega⟩
       ·have ow:(q2==D)=false:=by simpa using hm
        have HX:=Kz (show os++jr D (p:Int) (s1.take (j+1))=U by rw[j5.o,if_neg hm,ai.o,append_nil]);clear hm;go_wp2_with fail;refine⟨⟨j+1,by omega,⟨ae,dz.o,aS.o.trans gd,by rw[HX.o];exact dC.o.gr gd,(show Gr W3 _ from gd).keep dA.o,aV.o.gr gd,aj.o⟩,by go_num⟩,by simp[intOf];omega⟩
      ·have oz:j=s1.length:=by omega
       subst oz;have oG:=dC.o;go_wp2_with fail;refine⟨⟨p+1,ae,by omega,dz,aS.o,?_,by go_num⟩,by simp[intOf];omega⟩;rw[List.take_length] at ai
       have e:(List.range (p+1)).flatMap (kU (E,X) (I,J,q,K,O,T))=U:=by
        rw[ai.o,range_succ,List.flatMap_append,aZ.o]
        congr 1
        rw[List.flatMap_singleton,mo.o]
       rw[e];exact oG
  ·have oH:p=q.length+1:=by omega
   obtain⟨fq,h1,h2⟩:=HO.o.fresh (by unfold bn;omega) (by rw[HF.o];exact aY.nil _);have H1:=Kz (show SlR fq W1 (.slice ra os.length rc) (mg (E,X) (I,J,q,K,O,T)) by rw[oH] at aZ;unfold mg;rw[aZ.o];exact h1);have H2:=Kz (h2.of_le gB.size);clear h1 h2;go_wp2_with fail;go_ret;exact⟨_,fq,rfl,H1.o,H2.o,bg.o⟩
end Go.Proofs.YtdhighcpmcdmmaaGreat
