/- Contracts and laws towards ReadsOf, part 21 of 54. No condition. -/
import Derived.Test.YtdhighcpmcdmmaaGreatFx18
set_option maxHeartbeats 32000000
set_option maxRecDepth 10000
set_option linter.unusedVariables false
set_option linter.unusedSimpArgs false
namespace Go.Proofs.YtdhighcpmcdmmaaGreat
open Go.RowKit
open _root_.Nat (le_trans)
open _root_.Option (getD_some)
variable{d:Nat}
def il(es:List (aX d))(o:ag):Option (aA d):=(zI es o).map (·.2)
def ng:aA d:=(0,0,0,0,ByteArray.empty,ByteArray.empty,[])
theorem De(w:World):Rd.rd (α:=aA d) ([]++([]++([]++([]++([]++([]++[])))))) w [.int .i64 0,.int .i64 0,.int .i64 0,.int .i64 0,.string ByteArray.empty,.string ByteArray.empty,.slice none 0 0] ng:=bJ _ _ _ _ _ _ _ (by decide) (by decide) (by decide) (by decide) (by decide) (by decide) (SlR.nil w)
theorem uF(hE:∀(fp:List Nat) (cs:Array Value) (x:GE d) (w:World) (hx:Rd.rd fp w cs.toList x) (hl:wtE d x≤1048576),Calls Tryz.prog 222 #[.agg cs] w (Made w x))
  (fp:List Nat) (cs:Array Value) (x:aA d) (w:World) (hx:Rd.rd fp w cs.toList x) (hl:ak x≤1048576):
  Calls Tryz.prog 222 #[.agg cs] w (Made w x):=by
 obtain⟨q0,q1,q2,q3,q4,q5,q6,Y,Z,eH,rfl,rfl,-,ae,ah,ai,aj,au,ax,ay,dU,dW⟩:=KU hx;have E:=ay.op3
 have H:fC q6≤1048576:=by
  have h:q4.size+q5.size+fC q6≤1048576:=hl;omega
 have fe:q6.length≤1048576:=le_trans (bT (wtE _) q6) H;have HW:=Kz H;have H0:=Kz (And.intro ae (And.intro ah (And.intro ai (And.intro aj (And.intro au ax)))));obtain⟨i0,hi,aL,aN,aS⟩:=info_parts Tryz.tC;have T:=Kz (And.intro hi (And.intro aL (And.intro aN aS)));clear hi aL aN aS hx hl H ae ah ai aj au ax;go_in;go_wp2_with fail;generalize I:((w.alloc (.cells #[.int .i64 q0,.int .i64 q1,.int .i64 q2,.int .i64 q3,.string q4,.string q5,.slice Y q6.length Z] 115)).alloc (.cells #[.int .i64 0,.int .i64 0,.int .i64 0,.int .i64 0,.string ⟨#[]⟩,.string ⟨#[]⟩,.slice none 0 0] 115))=B;have gB:Gr w B:=gb I;obtain⟨fu,fw,fA,fK,gm,gD,bH⟩:=kb7 I (w.heap.size) (.int .i64 q0) (.int .i64 q1) (.int .i64 q2) (.int .i64 q3) (.string q4) (.string q5) (.slice Y q6.length Z);have sB:B.heap.size=w.heap.size+2:=szB I;have EB:=Kz I;clear I
 go_loopw [9,3] (fun s9 s3 wr=>∃(k:Nat) (fps:List (List Nat)),k≤q6.length∧Ky (aY B fps.flatten)∧Gr B wr∧bE B 115 wr s3 fps (q6.take k)∧s9=.int .i64 k) (fun s9 _ _=>q6.length - (intOf s9).toNat)
 case atStart=>exact⟨0,[],by omega,Kz (by simpa using aY.nil B),gd,bE.nil B B 115,rfl⟩
 case round=>
  obtain⟨k,fps,hk,HF,U,hown,rfl⟩:=hrel
  rename World=>W1
  have HG:=Kz U;have X:=Kz hown;obtain⟨ra,rc,s⟩:=hown.form;have y6:=bH _ U;have J:(q6.take k).length=k:=by simp;omega
  rw[J] at s;have HL:=Kz J;have zx:=blk y6;have aV:=gB.trans U;have aZ:=Kz aV;subst s;clear U hown J aV
  by_cases D:k<q6.length
  ·obtain⟨d1,rfl⟩:∃e,d=e+1:=by
    cases d with
    |zero=>exact PEmpty.elim (q6[k])
    |succ e=>exact⟨e,rfl⟩
   have bg:wtE (d1+1) q6[k]≤1048576:=le_trans (dI (wtE _) q6 D) HW.o;have bK:=Kz bg;obtain⟨b,off,rfl,hb⟩:=E k D;obtain⟨p0,p1,p2,p3,p4,p5,p6,gF,gH,gM,gT,bL,bN,bV,cK,cO,dz,dA,dC,dG,-,-,z0,z1,z2,z3,z4,z5,z6,zb⟩:=Lc ay D aZ.o;clear E bV cK cO dz dA dC dG bg;go_wp2_with fail;refine(hE _ _ q6[k] _ (Rd.gr (by rw[←bL.o];exact bN.o) (tg aZ)) bK.o).mono ?_;rintro e w1 ⟨ds,fq,rfl,q,hf,y,rfl⟩;have HS:=Kz q;have bq:=Kz (hf.of_le (w:=W1) (by simp));obtain⟨r0,r1,r2,r3,r4,r5,ik,iw,jN,rfl⟩:=eO (show Rd.rd (α:=aA d1) fq _ ds.toList _ from q);clear q hf
   go_wp2_with (first|(at_builtin;refine bP (α:=GE (d1+1)) (w0:=B) (tg HG) rfl _ _ 113 rfl 115 i0 _ _ Tryz.underlying113 T.o.1 T.o.2.1 T.o.2.2.1 T.o.2.2.2 rfl _ fps _ (by rfl) (X.o.gr gd) _ [fq] [q6[k]] (by rfl) (eT.one (by simp) (Rd.gr HS.o gd)) (pE X.o bq.o) (by rw[HL.o];unfold maxLen;simp;omega) (by rw[HL.o];simp;omega) ?_;intro v3 w3 K h2 h3 O;replace K:=Kz K;replace O:=Kz O;clear h2 h3))
   refine⟨⟨k+1,fps++[fq],by omega,Kz (kD HF.o (bE.lt X.o) (HG.o.size) bq.o),O.o,?_,by go_num⟩,by simp[intOf];omega⟩;have e:q6.take (k+1)=q6.take k++[q6[k]]:=List.take_succ_eq_append_getElem D;rw[e];exact K.o
  ·have dL:k=q6.length:=by omega
   subst dL;obtain⟨y,rfl⟩:=HG.o;obtain⟨fr,q,bB⟩:=X.o.fresh (by rw[HL.o];unfold bn;omega) HF.o;rw[List.take_length] at q;have HS:=Kz q;have bD:=Kz bB;clear q bB;obtain rfl:=EB.o;obtain⟨h0,K,h2,h3,O,h5⟩:=H0.o;go_wp2_with fail
   exact bodyPost_ret (v:=.agg #[.int .i64 q0,.int .i64 q1,.int .i64 q2,.int .i64 q3,.string q4,.string q5,.slice ra q6.length rc])
    (by simp[results,Tryz.results222,go_sem]) rfl ⟨_,_,rfl,bJ q0 q1 q2 q3 q4 q5 q6 h0 K h2 h3 O h5 (SlR.moved HS.o bD.o gd (by simp)),bD.o.of_le (by simp<;>omega),gd⟩
theorem rM:(d:Nat)→∀(fp:List Nat) (cs:Array Value) (x:GE d) (w:World) (h:Rd.rd fp w cs.toList x) (q:wtE d x≤1048576),Calls Tryz.prog 222 #[.agg cs] w (Made w x)
 |0=>by intro fp cs x;exact PEmpty.elim x
 |d+1=>uF (rM d)
theorem AY(fp:List Nat)(cs:Array Value)(x:aA d)(w:World)(h:Rd.rd fp w cs.toList x)(q:ak x≤1048576):
  Calls Tryz.prog 222 #[.agg cs] w (Made w x):=uF (rM d) fp cs x w h q
theorem Ma{fx:List Nat}{cx:Array Value}(x:(aW d)){fn:List Nat}{cn:Array Value}(n:ag)(w:World)(hx:Rd.rd fx w cx.toList x)(hn:Rd.rd fn w cn.toList n)(hl:bF x≤1048576):
  Calls Tryz.prog 171 #[.agg cx,.agg cn] w (Found [] w (il x.2.2.2.2.1 n) ng):=by
 have HX:=Kz hx;obtain⟨x0,x1,x2,x3,q,x5,au,ax,j5,ay,aL,ku,aN,aS,ky,rfl,rfl,-,kz,kE,kL,fK,gm,aV,gD,gF,kQ,gH,gM⟩:=KV hx;have bD:=aV.op3;clear hx
 have aZ:cz q≤1048576:=by
  have h:x0.size+x1.size+cu x2+cz q+df x5≤1048576:=hl;omega
 have dA:=Kz aZ;clear hl aZ;obtain⟨H,I,rfl,rfl,-,kS,kT⟩:=KT hn;clear hn;go_in;go_wp2_with fail;generalize hB:((w.alloc (.cells #[.string x0,.string x1,.slice au x2.length ax,.bool x3,.slice ay q.length aL,.slice aN x5.length aS] 112)).alloc (.cells #[.int .i64 H,.string I] 132)).alloc (.cells #[.int .i64 0,.int .i64 0,.int .i64 0,.int .i64 0,.string ⟨#[]⟩,.string ⟨#[]⟩,.slice none 0 0] 115)=B;have gB:Gr w B:=gb hB;obtain⟨kV,kX,kZ,lq,dC,lG⟩:=kb6 hB (w.heap.size) (.string x0) (.string x1) (.slice au x2.length ax) (.bool x3) (.slice ay q.length aL) (.slice aN x5.length aS);obtain⟨dG,dL⟩:=kb2 hB (w.heap.size+1) (.int .i64 H) (.string I);have sB:B.heap.size=w.heap.size+3:=szB hB;have EB:=Kz hB;clear hB
 go_loopw [11,7] (fun ah s7 wr=>∃k:Nat,k≤q.length∧Ky (∀j (h:j<q.length),j<k→decide (q[j].1=(H,I))=false)∧Gr B wr∧ah=.int .i64 k) (fun ah _ _=>q.length - (intOf ah).toNat)
 case atStart=>exact⟨0,by omega,Kz (by omega),Gr.refl _,rfl⟩
 case round=>
  obtain⟨k,hk,ht,hg,rfl⟩:=hrel
  rename World=>W1
  have bg:=Kz (gB.trans hg);have ai:=Kz hg;have y4:=dC _ hg;have dU:=dG _ hg;have lV:=dL _ hg;have l5:=blk y4;have l6:=blk dU;clear hg
  by_cases J:k<q.length
  ·have gT:=J
   have i0:(0:Int)≤(k:Int):=by omega
   have i1:(k:Int)<(q.length:Int):=by omega
   obtain⟨b,off,rfl,l7⟩:=bD k J;obtain⟨s,D,K,O,T,U,X,Y,Z,ik,iw,jN,l8,ae,ma,jX,j4,bH,bK,bL,bN,bV,cK,cO,fw,fA,mf,mh,mo,mq,mr,mH,mZ,nz,nM,nO⟩:=KY aV J bg.o
   have aj:(s=H∧D=I)∨(s≠H)∨(s=H∧D.toList≠I.toList):=
    (Classical.em (s=H)).elim (fun t0=>(Classical.em (D=I)).elim (fun t1=>.inl ⟨t0,t1⟩) (fun t1=>.inr (.inr ⟨t0,fun e=>t1 (str_inj e)⟩))) (fun t0=>.inr (.inl t0))
   rcases aj with⟨rfl,rfl⟩|e|⟨rfl,e⟩
   ·have hl:il q (s,D)=some (K,O,T,U,X,Y,Z):=by
     have h1:zI q (s,D)=some q[k]:=FX J (by rw[←ae.o];simp) ht.o;unfold il;rw[h1,←ae.o];rfl
    have HL:=Kz hl;have hw:aU q[k]≤1048576:=le_trans (dI aU q J) dA.o;rw[←ae.o] at hw
    have bq:ak (K,O,T,U,X,Y,Z)≤1048576:=by
     have h:D.size+ak (K,O,T,U,X,Y,Z)≤1048576:=hw;omega
    have HW:=Kz bq;have HX:=Kz (bJ K O T U X Y Z bH bK bL bN bV cK cO);clear hl hw bq;go_wp2_with fail;refine(AY _ _ (K,O,T,U,X,Y,Z) _ (Rd.gr HX.o (tg bg)) HW.o).mono ?_;rintro e w' ⟨es,fq,rfl,hr,hf,z1,rfl⟩;have dW:=Kz hr;have bB:=Kz hf;obtain⟨r0,r1,r2,r3,r4,r5,eH,fe,fu,rfl⟩:=eO hr;clear hr hf;obtain⟨y,rfl⟩:=ai.o;obtain rfl:=EB.o;go_wp2_with fail
    exact bodyPost_ret (v:=.tuple #[.agg #[.int .i64 r0,.int .i64 r1,.int .i64 r2,.int .i64 r3,.string r4,.string r5,.slice eH fe fu],.bool true])
     (by simp[results,Tryz.results171,go_sem]) rfl ⟨_,fq,by rw[HL.o];rfl,by rw[HL.o,getD_some];exact Rd.moved dW.o bB.o gd (by simp),fun c hc=>.inr (le_trans (by simp<;>omega) (bB.o.2 c hc)),gd⟩
   all_goals
    have E:=Kz e;go_wp2_with fail;refine⟨⟨k+1,by omega,Kz fun j hj nP=>?_,ai.o.trans gd,by go_num⟩,by simp[intOf];omega⟩
    by_cases dz:j<k
    ·exact ht.o j hj dz
    ·obtain rfl:j=k:=by omega
     rw[←ae.o];refine decide_eq_false fun h=>E.o ?_
     simp only[Prod.mk.injEq,true_and] at h;simp[h]
  ·have hn:il q (H,I)=none:=by
    have h1:zI q (H,I)=none:=jU fun j hj=>ht.o j hj (by omega)
    unfold il;rw[h1];rfl
   have HL:=Kz hn;clear hn;obtain⟨y,rfl⟩:=ai.o;obtain rfl:=EB.o;go_wp2_with fail
   exact bodyPost_ret (v:=.tuple #[.agg #[.int .i64 0,.int .i64 0,.int .i64 0,.int .i64 0,.string ⟨#[]⟩,.string ⟨#[]⟩,.slice none 0 0],.bool false])
    (by simp[results,Tryz.results171,go_sem]) rfl ⟨_,_,by rw[HL.o];rfl,by rw[HL.o];exact De _,by simp,gd⟩
theorem lQ{fx:List Nat}{cx:Array Value}(x:(aW d)){fn:List Nat}{cn:Array Value}(n:ag)(w:World)(hx:Rd.rd fx w cx.toList x)(hn:Rd.rd fn w cn.toList n)(hl:bF x≤1048576):
  Calls Tryz.prog 127 #[.agg cx,.agg cn] w (Found [] w (il x.2.2.2.2.1 n) ng):=by
 have HX:=Kz hx;obtain⟨x0,x1,x2,x3,q,x5,aj,au,j4,ax,ay,j5,aL,aN,ku,rfl,rfl,-,ky,kz,kE,fA,fK,aS,gm,gD,kL,gF,gH⟩:=KV hx;have bB:=aS.op3;clear hx
 have aV:cz q≤1048576:=by
  have h:x0.size+x1.size+cu x2+cz q+df x5≤1048576:=hl;omega
 have dz:=Kz aV;clear hl aV;obtain⟨H,I,rfl,rfl,-,kQ,kS⟩:=KT hn;clear hn;go_in;go_wp2_with fail;generalize hB:((w.alloc (.cells #[.string x0,.string x1,.slice aj x2.length au,.bool x3,.slice ax q.length ay,.slice aL x5.length aN] 112)).alloc (.cells #[.int .i64 H,.string I] 132)).alloc (.cells #[.int .i64 0,.int .i64 0,.int .i64 0,.int .i64 0,.string ⟨#[]⟩,.string ⟨#[]⟩,.slice none 0 0] 115)=B;have gB:Gr w B:=gb hB;obtain⟨kT,kV,kX,kZ,dA,lq⟩:=kb6 hB (w.heap.size) (.string x0) (.string x1) (.slice aj x2.length au) (.bool x3) (.slice ax q.length ay) (.slice aL x5.length aN);obtain⟨dC,dG⟩:=kb2 hB (w.heap.size+1) (.int .i64 H) (.string I);have sB:B.heap.size=w.heap.size+3:=szB hB;have EB:=Kz hB;clear hB
 go_loopw [6] (fun s6 wr=>∃k:Nat,k≤q.length∧Ky (∀j (h:j<q.length),j<k→decide (q[j].1=(H,I))=false)∧Gr B wr∧s6=.int .i64 k) (fun s6 _=>q.length - (intOf s6).toNat)
 case atStart=>exact⟨0,by omega,Kz (by omega),Gr.refl _,rfl⟩
 case round=>
  obtain⟨k,hk,ht,hg,rfl⟩:=hrel
  rename World=>W1
  have aZ:=Kz (gB.trans hg);have ah:=Kz hg;have y4:=dA _ hg;have dL:=dC _ hg;have lG:=dG _ hg;have lV:=blk y4;have l5:=blk dL;clear hg
  by_cases J:k<q.length
  ·have gM:=J
   have i0:(0:Int)≤(k:Int):=by omega
   have i1:(k:Int)<(q.length:Int):=by omega
   obtain⟨b,off,rfl,l6⟩:=bB k J;obtain⟨s,D,K,O,T,U,X,Y,Z,gT,ik,iw,l7,ae,l8,jN,jX,bD,bH,bK,bL,bN,bV,cK,fu,fw,ma,mf,mh,mo,mq,mr,mH,mZ,nz,nM⟩:=KY aS J aZ.o
   have ai:(s=H∧D=I)∨(s≠H)∨(s=H∧D.toList≠I.toList):=
    (Classical.em (s=H)).elim (fun t0=>(Classical.em (D=I)).elim (fun t1=>.inl ⟨t0,t1⟩) (fun t1=>.inr (.inr ⟨t0,fun e=>t1 (str_inj e)⟩))) (fun t0=>.inr (.inl t0))
   rcases ai with⟨rfl,rfl⟩|e|⟨rfl,e⟩
   ·have hl:il q (s,D)=some (K,O,T,U,X,Y,Z):=by
     have h1:zI q (s,D)=some q[k]:=FX J (by rw[←ae.o];simp) ht.o;unfold il;rw[h1,←ae.o];rfl
    have HL:=Kz hl;have hw:aU q[k]≤1048576:=le_trans (dI aU q J) dz.o;rw[←ae.o] at hw
    have bg:ak (K,O,T,U,X,Y,Z)≤1048576:=by
     have h:D.size+ak (K,O,T,U,X,Y,Z)≤1048576:=hw;omega
    have HW:=Kz bg;have HX:=Kz (bJ K O T U X Y Z bD bH bK bL bN bV cK);clear hl hw bg;go_wp2_with fail;refine wg ?_
    repeat(go_big_quiet_step (fail))
    refine wq fun nx=>?_
    go_wp2_with fail;refine(ny _ _ (K,O,T,U,X,Y,Z) _ (Rd.gr HX.o (tg aZ)) HW.o).mono ?_;rintro e w' ⟨es,fq,rfl,hr,hf,z1,rfl⟩;have dU:=Kz hr;have bq:=Kz hf;obtain⟨r0,r1,r2,r3,r4,r5,dW,eH,fe,rfl⟩:=eO hr;clear hr hf;obtain⟨y,rfl⟩:=ah.o;obtain rfl:=EB.o;go_wp2_with fail
    exact bodyPost_ret (v:=.tuple #[.agg #[.int .i64 r0,.int .i64 r1,.int .i64 r2,.int .i64 r3,.string r4,.string r5,.slice dW eH fe],.bool true])
     (by simp[results,Tryz.results127,go_sem]) rfl ⟨_,fq,by rw[HL.o];rfl,by rw[HL.o,getD_some];exact Rd.moved dU.o bq.o gd (by simp),fun c hc=>.inr (le_trans (by simp<;>omega) (bq.o.2 c hc)),gd⟩
   all_goals
    have E:=Kz e;go_wp2_with fail;refine wg ?_
    repeat(go_big_quiet_step (fail))
    refine wq fun nx=>?_
    go_wp2_with fail;refine⟨⟨k+1,by omega,Kz fun j hj nO=>?_,ah.o.trans gd,by go_num⟩,by simp[intOf];omega⟩
    by_cases cO:j<k
    ·exact ht.o j hj cO
    ·obtain rfl:j=k:=by omega
     rw[←ae.o];refine decide_eq_false fun h=>E.o ?_
     simp only[Prod.mk.injEq,true_and] at h;simp[h]
  ·have hn:il q (H,I)=none:=by
    have h1:zI q (H,I)=none:=jU fun j hj=>ht.o j hj (by omega)
    unfold il;rw[h1];rfl
   have HL:=Kz hn;clear hn;obtain⟨y,rfl⟩:=ah.o;obtain rfl:=EB.o;go_wp2_with fail
   exact bodyPost_ret (v:=.tuple #[.agg #[.int .i64 0,.int .i64 0,.int .i64 0,.int .i64 0,.string ⟨#[]⟩,.string ⟨#[]⟩,.slice none 0 0],.bool false])
    (by simp[results,Tryz.results127,go_sem]) rfl ⟨_,_,by rw[HL.o];rfl,by rw[HL.o];exact De _,by simp,gd⟩
theorem ug(n:Int)(w:World):Calls Tryz.prog 265 #[.int .i64 n] w fun e w'=>e=.returned (.int .i64 (sat n))∧w=w':=by
 go_in;go_wp2_with fail
 all_goals
  go_ret;refine⟨aC ?_,rfl⟩;unfold sat
  first|(trace_state;omega)
theorem qP(b:Bool)(w:World):Calls Tryz.prog 266 #[.bool b] w fun e w'=>e=.returned (.int .i64 (if b then 1 else 0))∧w=w':=by
 cases b<;>
 ·skip
  go_in;go_wp2_with fail;go_ret;exact⟨rfl,rfl⟩
theorem lY(n:Int)(w:World):Qz 308 #[.int .i64 n] w (.bool (decide (1≤n)&&decide (n≤4))):=by
 delta Qz;go_in;go_wp2_with fail;refine(di n 1 4 _).mono ?_;rintro e w' ⟨rfl,rfl⟩;go_wp2_with fail;go_ret;exact⟨rfl,Gr.refl _⟩
theorem lU(n t:Int)(w:World):Qz 264 #[.int .i64 n,.int .i64 t] w (.int .i64 (mY n t)):=by
 obtain⟨R,h⟩:=nm (mY n t);rw[←h];have q:=Kz h;clear h;delta Qz;go_in
 go_wp2_with (first|(go_at_call 265;refine(ug _ _).mono ?_;rintro e w' ⟨rfl,rfl⟩)|(go_at_call 266;refine(qP _ _).mono ?_;rintro e w' ⟨rfl,rfl⟩)|(go_at_call 101;refine(di _ _ _ _).mono ?_;rintro e w' ⟨rfl,rfl⟩))
 go_ways
 all_goals
  go_ret;refine⟨aC ?_,gd⟩;rw[q.o];clear q;unfold mY
  first|(simp_all;done)|(split<;>simp_all<;>omega)
theorem dV(n t:Int)(w:World):Qz 260 #[.int .i64 n,.int .i64 t] w (.bool (pB (eG n t))):=by
 by_cases q:1≤t∧t≤4
 ·obtain⟨v,D⟩:=nm (mY n t)
  have s:=Kz D;have E:=Kz q;have B:(decide (1≤t)&&decide (t≤4))=true:=by rw[decide_eq_true q.1,decide_eq_true q.2];rfl
  clear D q;delta Qz;go_in;go_wp2_with fail;refine(lY _ _).mono ?_;rintro e w' ⟨rfl,H,rfl⟩;rw[B];go_wp2_with fail;refine(lU n t _).mono ?_;rintro e w' ⟨rfl,J,rfl⟩;rw[←s.o];go_wp2_with fail;go_ret;refine⟨aa ?_,gd⟩
  by_cases h:v=n
  ·rw[bQ ⟨E.o,by rw[←s.o];exact h⟩];simp[h]
  ·rw[bz fun k=>h (by rw[s.o];exact k.2)];simp[h]
 ·have B:(decide (1≤t)&&decide (t≤4))=false:=Bool.and_eq_false_iff.2 (by by_cases h:1≤t<;>simp_all<;>omega)
  have I:=Kz (bz (show¬eG n t from fun h=>q h.1));clear q;delta Qz;go_in;go_wp2_with fail;refine(lY _ _).mono ?_;rintro e w' ⟨rfl,H,rfl⟩;rw[B];go_wp2_with fail;go_ret;exact⟨aa I.o.symm,gd⟩
theorem uO(n:Int)(w:World):Calls Tryz.prog 263 #[.int .i64 n] w (EG n w):=by
  unfold EG;obtain⟨R,B⟩:=nm (opT n);rw[←B];have q:=Kz B;clear B
  by_cases s:1≤n∧n≤12
  · have D:=Kz s
    clear s;go_in;go_wp2_with fail
    all_goals
      first
      | (have E:=eq_of_beq ‹(n==_)=true›
         subst E
         first
         |(refine bodyPost_ret (v:=.tuple #[.int .i64 1,.int .i64 1,.int .i64 1]) ?_ rfl ⟨?_,gd⟩;(focus (simp[results,Tryz.results263,go_sem];done));(rw[q.o];rfl))
         |(refine bodyPost_ret (v:=.tuple #[.int .i64 2,.int .i64 2,.int .i64 2]) ?_ rfl ⟨?_,gd⟩;(focus (simp[results,Tryz.results263,go_sem];done));(rw[q.o];rfl))
         |(refine bodyPost_ret (v:=.tuple #[.int .i64 1,.int .i64 1,.int .i64 3]) ?_ rfl ⟨?_,gd⟩;(focus (simp[results,Tryz.results263,go_sem];done));(rw[q.o];rfl))
         |(refine bodyPost_ret (v:=.tuple #[.int .i64 2,.int .i64 1,.int .i64 3]) ?_ rfl ⟨?_,gd⟩;(focus (simp[results,Tryz.results263,go_sem];done));(rw[q.o];rfl))
         |(refine bodyPost_ret (v:=.tuple #[.int .i64 2,.int .i64 1,.int .i64 2]) ?_ rfl ⟨?_,gd⟩;(focus (simp[results,Tryz.results263,go_sem];done));(rw[q.o];rfl)))
      |(exfalso;have h:=D.o;simp only[beq_eq_false_iff_ne,ne_eq] at*;omega)
     
  · have H:=Kz (show R=(0,0,0) by rw[q.o];unfold opT;rw[if_neg (by omega),if_neg (by omega),if_neg (by omega),if_neg (by omega),if_neg (by omega)])
    have O:(n==1)=false:=by rw[beq_eq_false_iff_ne];omega
    have T:(n==2)=false:=by rw[beq_eq_false_iff_ne];omega
    have U:(n==3)=false:=by rw[beq_eq_false_iff_ne];omega
    have X:(n==4)=false:=by rw[beq_eq_false_iff_ne];omega
    have Y:(n==5)=false:=by rw[beq_eq_false_iff_ne];omega
    have Z:(n==6)=false:=by rw[beq_eq_false_iff_ne];omega
    have e7:(n==7)=false:=by rw[beq_eq_false_iff_ne];omega
    have e8:(n==8)=false:=by rw[beq_eq_false_iff_ne];omega
    have e9:(n==9)=false:=by rw[beq_eq_false_iff_ne];omega
    have I:(n==10)=false:=by rw[beq_eq_false_iff_ne];omega
    have J:(n==11)=false:=by rw[beq_eq_false_iff_ne];omega
    have K:(n==12)=false:=by rw[beq_eq_false_iff_ne];omega
    clear s;go_in;go_wp2_with fail;exact bodyPost_ret (v:=.tuple #[.int .i64 0,.int .i64 0,.int .i64 0]) (by simp[results,Tryz.results263,go_sem]) rfl ⟨by rw[H.o],gd⟩
structure zD(w:World)(fid:Nat)(cap:Array Value)(p:{d:Nat}→aA d→Prop):Prop where
 fn:∀args W,(callFunc fid args).run Tryz.prog W=.ok (.enter fid args) W
 calls:∀{d:Nat} (y:aA d) (W:World) (hg:Gr w W) (fp:List Nat) (cs:Array Value),Rd.rd fp W cs.toList y→ak y≤1048576→Calls Tryz.prog fid (#[.agg cs]++cap) W fun e w'=>e=.returned (.bool (pB (p y)))∧Gr W w'
theorem zD.gr{w w':World}{q:Nat}{cap:Array Value}{p:{d:Nat}→aA d→Prop}(h:zD w q cap (fun{d} y=>p y))(s:Gr w w'):zD w' q cap (fun{d} y=>p y):=
 ⟨h.fn,fun y W g fp cs=>h.calls y W (s.trans g) fp cs⟩
def EW(p:{d:Nat}→aA d→Prop)(d:Nat):Prop:=∀(fp:List Nat) (cs:Array Value) (x:GE d) (h:Nat) (cap:Array Value) (w:World) (q:zD w h cap (fun{d} y=>p y)) (s:Rd.rd fp w cs.toList x) (B:wtE d x≤1048576),
 Calls Tryz.prog 204 #[.agg cs,.func (.func h) #[] cap] w fun e w'=>e=.returned (.bool (pB (jh (fun{d} y=>p y) d x)))∧Gr w w'
theorem wu{α:Type}{P:α→Prop}{xs:List α}:(xs.any fun y=>!pB (P y))=!pB (∀z∈xs,P z):=by
 by_cases h:∀z∈xs,P z
 ·rw[bQ h]
  rw[Bool.not_true,List.any_eq_false];intro y q
  rw[bQ (h y q)];simp
 ·rw[bz h]
  rw[Bool.not_false,List.any_eq_true];obtain⟨y,q⟩:=Classical.not_forall.1 h;obtain⟨hm,s⟩:=Classical.not_imp.1 q;exact⟨y,hm,by rw[bz s];rfl⟩
theorem Dz{p:{d:Nat}→aA d→Prop}(D:EW (fun{d} y=>p y) d)(fp:List Nat)(cs:Array Value)(x:GE d)(h:Nat)(cap:Array Value)(b:Nat)(w:World)(s:zD w h cap (fun{d} y=>p y))(q:Rd.rd fp w cs.toList x)(B:wtE d x≤1048576)
  (E:w.cell? ⟨b,0,none⟩=some (.func (.func h) #[] cap)):
  Qz 251 #[.agg cs,.pointer (some ⟨b,0,none⟩)] w (.bool (!pB (jh (fun{d} y=>p y) d x))):=by
 obtain⟨d1,rfl⟩:∃e,d=e+1:=by
  cases d with
  |zero=>exact PEmpty.elim x
  |succ e=>exact⟨e,rfl⟩
 have H:=Kz q;have I:=Kz s;have J:=Kz B;obtain⟨q0,q1,q2,q3,q4,q5,O,T,U,rfl⟩:=eO (show Rd.rd (α:=aA d1) fp w cs.toList _ from q);have K:=blk E;clear q s B;delta Qz;go_in;go_wp2_with fail;refine(D _ _ x h cap _ (I.o.gr gd) (Rd.gr H.o gd) J.o).mono ?_;rintro e w' ⟨rfl,X,rfl⟩;go_wp2_with fail;go_ret;exact⟨rfl,gd⟩
theorem wT{p:{d:Nat}→aA d→Prop}(hE:EW (fun{d} y=>p y) d):EW (fun{d} y=>p y) (d+1):=by
 intro fp cs x E cap w ht K O
 have HL:=Kz O;obtain⟨U,s⟩:=ht;have X:=Kz (zD.mk (p:=fun{d} y=>p y) U (fun{d}=>s));clear s;obtain⟨q0,q1,q2,q3,q4,q5,q6,I,J,aj,rfl,rfl,-,au,ax,ay,aL,aN,aS,Y,ah,ai⟩:=KU K;have HX:=Kz K;have Z:=Kz Y;clear K;have hw:q4.size+q5.size+wtL (wtE d) q6≤1048576:=O;have ae:=Kz hw;clear O hw;go_in;go_wp2_with fail;generalize H:(w.alloc (.cells #[.int .i64 q0,.int .i64 q1,.int .i64 q2,.int .i64 q3,.string q4,.string q5,.slice I q6.length J] 115)).alloc (.cells #[.func (.func E) #[] cap] 172)=B;have gB:Gr w B:=gb H;have b6:B.cell? ⟨w.heap.size,6,none⟩=some (.slice I q6.length J):=by rw[←H];exact Gr.keep (Gr.alloc (Gr.refl _) _) (aJ rfl rfl)
 have f0:B.cell? ⟨w.heap.size+1,0,none⟩=some (.func (.func E) #[] cap):=by rw[←H];exact aJ (by simp) rfl
 have q:=Kz gB
 have hT:∀W:World,Gr B W→TestExpr W 251 #[.pointer (some ⟨w.heap.size+1,0,none⟩)] (fun y=>!pB (jh (fun{d} y=>p y) d y)) q6:=fun W hg=>
  ⟨Tryz.call251,fun z hz x fp cs hr=>Dz hE fp cs z E cap (w.heap.size+1) _ (X.o.gr ((q.o.trans hg).trans gd)) hr (by
   obtain⟨j,hj,rfl⟩:=List.mem_iff_getElem.1 hz;have:=dI (wtE d) q6 hj;have:=ae.o;omega) ((hg.trans gd).keep f0)⟩
 have HT:=Kz hT;have zb:=blk b6;clear H gB hT;refine(X.o.calls (q0,q1,q2,q3,q4,q5,q6) _ q.o _ _ (Rd.gr HX.o q.o) HL.o).mono ?_;rintro e w' ⟨rfl,x1,rfl⟩
 by_cases D:p (q0,q1,q2,q3,q4,q5,q6)
 ·rw[bQ D]
  have T:=Kz D;clear D
  go_wp2_with (first|(go_at_call 137;refine(kK _ _ q6 _ _ (fun y=>!pB (jh (fun{d} y=>p y) d y)) _ (Z.o.gr (tg q)) (HT.o _ gd)).mono ?_;rintro e w' ⟨rfl,x2,rfl⟩))
  go_ret;exact⟨aa (by rw[wu,Bool.not_not];exact(iO (AL.trans ⟨fun h=>h.2,fun h=>⟨T.o,h⟩⟩)).symm),q.o.trans gd⟩
 ·rw[bz D]
  have T:=Kz D;clear D;go_wp2_with fail;go_ret;exact⟨aa (bz fun h=>T.o h.1).symm,q.o.trans gd⟩
theorem sV(p:{d:Nat}→aA d→Prop):(d:Nat)→EW (fun{d} y=>p y) d
 |0=>by intro fp cs x;exact PEmpty.elim x
 |d+1=>wT (sV (fun{d} y=>p y) d)
end Go.Proofs.YtdhighcpmcdmmaaGreat
