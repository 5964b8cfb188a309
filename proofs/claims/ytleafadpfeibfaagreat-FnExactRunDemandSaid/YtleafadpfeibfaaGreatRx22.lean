/- Contracts and laws towards ReadsOf, part 24 of 54. No condition. -/
import Derived.Test.YtleafadpfeibfaaGreatRx20
set_option maxHeartbeats 32000000
set_option maxRecDepth 10000
set_option linter.unusedVariables false
set_option linter.unusedSimpArgs false
namespace Go.Proofs.YtleafadpfeibfaaGreat
open Go.RowKit
open _root_.List (foldl_cons map_append map_cons take_length)
open _root_.Int (lt_or_le)
open _root_.Nat (le_trans)
open _root_.Option (getD_some)
variable{d:Nat}
variable{q0 q1 q2 q3:Int}{q4 q5:ByteArray}{k:Nat}
def il(es:List (aX d))(o:ag):Option (aA d):=(zI es o).map (·.2)
def ng:aA d:=(0,0,0,0,ByteArray.empty,ByteArray.empty,[])
theorem De(w:World):Rd.rd (α:=aA d) ([]++([]++([]++([]++([]++([]++[])))))) w [.int .i64 0,.int .i64 0,.int .i64 0,.int .i64 0,.string ByteArray.empty,.string ByteArray.empty,.slice none 0 0] ng:=bJ _ _ _ _ _ _ _ (by decide) (by decide) (by decide) (by decide) (by decide) (by decide) (SlR.nil w)
theorem uF(hE:∀(fp:List Nat) (cs:Array Value) (x:GE d) (w:World) (hx:Rd.rd fp w cs.toList x) (hl:wtE d x≤1048576),Calls Tryz.prog 183 #[.agg cs] w (Made w x))
  (fp:List Nat) (cs:Array Value) (x:aA d) (w:World) (hx:Rd.rd fp w cs.toList x) (hl:aS x≤1048576):
  Calls Tryz.prog 183 #[.agg cs] w (Made w x):=by
 obtain⟨q0,q1,q2,q3,q4,q5,q6,X,Y,fe,rfl,rfl,-,Z,ae,ah,ai,aj,ak,au,dS,dV⟩:=KU hx;have I:=au.op3
 have J:fC q6≤1048576:=by
  have h:q4.size+q5.size+fC q6≤1048576:=hl;omega
 have fu:q6.length≤1048576:=le_trans (bT (wtE _) q6) J;have HW:=Kz J;have H0:=Kz (And.intro Z (And.intro ae (And.intro ah (And.intro ai (And.intro aj ak)))));obtain⟨i0,hi,ax,ay,aZ⟩:=info_parts Tryz.tC;have U:=Kz (And.intro hi (And.intro ax (And.intro ay aZ)));clear hi ax ay aZ hx hl J Z ae ah ai aj ak;go_in;go_wp2_with fail;generalize K:((w.alloc (.cells #[.int .i64 q0,.int .i64 q1,.int .i64 q2,.int .i64 q3,.string q4,.string q5,.slice X q6.length Y] 165)).alloc (.cells #[.int .i64 0,.int .i64 0,.int .i64 0,.int .i64 0,.string ⟨#[]⟩,.string ⟨#[]⟩,.slice none 0 0] 165))=B;have gB:Gr w B:=gb K;obtain⟨gD,gF,gT,gV,gX,ik,bX⟩:=kb7 K (w.heap.size) (.int .i64 q0) (.int .i64 q1) (.int .i64 q2) (.int .i64 q3) (.string q4) (.string q5) (.slice X q6.length Y);have sB:B.heap.size=w.heap.size+2:=szB K;have EB:=Kz K;clear K
 go_loopw [9,3] (fun s9 s3 wr=>∃(k:Nat) (fps:List (List Nat)),k≤q6.length∧Ky (aY B fps.flatten)∧Gr B wr∧bE B 165 wr s3 fps (q6.take k)∧s9=.int .i64 k) (fun s9 _ _=>q6.length - (intOf s9).toNat)
 case atStart=>exact⟨0,[],by omega,Kz (by simpa using aY.nil B),gd,bE.nil B B 165,rfl⟩
 case round=>
  obtain⟨k,fps,hk,HF,hg,hown,rfl⟩:=hrel
  rename World=>W1
  have HG:=Kz hg;have V:=Kz hown;obtain⟨ra,rc,q⟩:=hown.form;have y6:=bX _ hg;have O:(q6.take k).length=k:=by simp;omega
  rw[O] at q;have HL:=Kz O;have zx:=blk y6;have bg:=gB.trans hg;have bq:=Kz bg;subst q;clear hg hown O bg
  by_cases D:k<q6.length
  ·obtain⟨d1,rfl⟩:∃e,d=e+1:=by
    cases d with
    |zero=>exact PEmpty.elim (q6[k])
    |succ e=>exact⟨e,rfl⟩
   have bB:wtE (d1+1) q6[k]≤1048576:=le_trans (dI (wtE _) q6 D) HW.o;have cB:=Kz bB;obtain⟨b,off,rfl,hb⟩:=I k D;obtain⟨p0,p1,p2,p3,p4,p5,p6,iw,kr,ku,ky,cK,cO,-,-,-,-,-,-,-,-,-,z0,z1,z2,z3,z4,z5,z6,zb⟩:=Lc au D bq.o;clear I bB;go_wp2_with fail;refine(hE _ _ q6[k] _ (Rd.gr (by rw[←cK.o];exact cO.o) (tg bq)) cB.o).mono ?_;rintro e w1 ⟨ds,fq,rfl,hs,hf,y,rfl⟩;have HS:=Kz hs;have bH:=Kz (hf.of_le (w:=W1) (by simp));obtain⟨r0,r1,r2,r3,r4,r5,lq,oH,oL,rfl⟩:=eO (show Rd.rd (α:=aA d1) fq _ ds.toList _ from hs);clear hs hf
   go_wp2_with (first|(at_builtin;refine bP (α:=GE (d1+1)) (w0:=B) (tg HG) rfl _ _ 163 rfl 165 i0 _ _ Tryz.underlying163 U.o.1 U.o.2.1 U.o.2.2.1 U.o.2.2.2 rfl _ fps _ (by rfl) (V.o.gr gd) _ [fq] [q6[k]] (by rfl) (eT.one (by simp) (Rd.gr HS.o gd)) (pE V.o bH.o) (by rw[HL.o];unfold maxLen;simp;omega) (by rw[HL.o];simp;omega) ?_;intro v3 w3 h1 h2 h3 T;replace h1:=Kz h1;replace T:=Kz T;clear h2 h3))
   refine⟨⟨k+1,fps++[fq],by omega,Kz (kD HF.o (bE.lt V.o) (HG.o.size) bH.o),T.o,?_,by go_num⟩,by simp[intOf];omega⟩;have e:q6.take (k+1)=q6.take k++[q6[k]]:=List.take_succ_eq_append_getElem D;rw[e];exact h1.o
  ·have dB:k=q6.length:=by omega
   subst dB;obtain⟨y,rfl⟩:=HG.o;obtain⟨fr,hs,bL⟩:=V.o.fresh (by rw[HL.o];unfold bn;omega) HF.o;rw[take_length] at hs;have HS:=Kz hs;have bR:=Kz bL;clear hs bL;obtain rfl:=EB.o;obtain⟨h0,h1,h2,h3,T,h5⟩:=H0.o;go_wp2_with fail
   exact bodyPost_ret (v:=.agg #[.int .i64 q0,.int .i64 q1,.int .i64 q2,.int .i64 q3,.string q4,.string q5,.slice ra q6.length rc])
    (by simp[results,Tryz.results183,go_sem]) rfl ⟨_,_,rfl,bJ q0 q1 q2 q3 q4 q5 q6 h0 h1 h2 h3 T h5 (SlR.moved HS.o bR.o gd (by simp)),bR.o.of_le (by simp<;>omega),gd⟩
theorem rM:(d:Nat)→∀(fp:List Nat) (cs:Array Value) (x:GE d) (w:World) (h:Rd.rd fp w cs.toList x) (q:wtE d x≤1048576),Calls Tryz.prog 183 #[.agg cs] w (Made w x)
 |0=>by intro fp cs x;exact PEmpty.elim x
 |d+1=>uF (rM d)
theorem AY(fp:List Nat)(cs:Array Value)(x:aA d)(w:World)(h:Rd.rd fp w cs.toList x)(q:aS x≤1048576):
  Calls Tryz.prog 183 #[.agg cs] w (Made w x):=uF (rM d) fp cs x w h q
theorem oK{fx:List Nat}{cx:Array Value}(x:(aW d)){fn:List Nat}{cn:Array Value}(n:ag)(w:World)(hx:Rd.rd fx w cx.toList x)(hn:Rd.rd fn w cn.toList n)(hl:bF x≤1048576):
  Calls Tryz.prog 143 #[.agg cx,.agg cn] w (Found [] w (il x.2.2.2.2.1 n) ng):=by
 have HX:=Kz hx;obtain⟨x0,x1,x2,x3,q,x5,au,ax,ve,ay,aZ,vB,bg,bq,vD,rfl,rfl,-,vF,vG,vL,oL,o5,bB,o9,qb,vO,q8,q9⟩:=KV hx;have cB:=bB.op3;clear hx
 have bH:cz q≤1048576:=by
  have h:x0.size+x1.size+cu x2+cz q+df x5≤1048576:=hl;omega
 have gF:=Kz bH;clear hl bH;obtain⟨J,K,rfl,rfl,-,vR,vX⟩:=KT hn;clear hn;go_in;go_wp2_with fail;generalize hB:((w.alloc (.cells #[.string x0,.string x1,.slice au x2.length ax,.bool x3,.slice ay q.length aZ,.slice bg x5.length bq] 128)).alloc (.cells #[.int .i64 J,.string K] 181)).alloc (.cells #[.int .i64 0,.int .i64 0,.int .i64 0,.int .i64 0,.string ⟨#[]⟩,.string ⟨#[]⟩,.slice none 0 0] 165)=B;have gB:Gr w B:=gb hB;obtain⟨wF,wL,w9,xc,gT,x9⟩:=kb6 hB (w.heap.size) (.string x0) (.string x1) (.slice au x2.length ax) (.bool x3) (.slice ay q.length aZ) (.slice bg x5.length bq);obtain⟨gV,gX⟩:=kb2 hB (w.heap.size+1) (.int .i64 J) (.string K);have sB:B.heap.size=w.heap.size+3:=szB hB;have EB:=Kz hB;clear hB
 go_loopw [11,7] (fun ai s7 wr=>∃k:Nat,k≤q.length∧Ky (∀j (h:j<q.length),j<k→decide (q[j].1=(J,K))=false)∧Gr B wr∧ai=.int .i64 k) (fun ai _ _=>q.length - (intOf ai).toNat)
 case atStart=>exact⟨0,by omega,Kz (by omega),Gr.refl _,rfl⟩
 case round=>
  obtain⟨k,hk,ht,hg,rfl⟩:=hrel
  rename World=>W1
  have bL:=Kz (gB.trans hg);have aj:=Kz hg;have y4:=gT _ hg;have ik:=gV _ hg;have yc:=gX _ hg;have yu:=blk y4;have y5:=blk ik;clear hg
  by_cases O:k<q.length
  ·have sO:=O
   have i0:(0:Int)≤(k:Int):=by omega
   have i1:(k:Int)<(q.length:Int):=by omega
   obtain⟨b,off,rfl,y7⟩:=cB k O;obtain⟨D,I,T,U,V,X,Y,Z,ae,uf,uo,uq,y8,ah,y9,uz,u6,cK,cO,dB,dS,dV,fe,fu,lq,oH,za,zb,ze,zf,zg,zl,zn,zo,zq,zu⟩:=KY bB O bL.o
   have ak:(D=J∧I=K)∨(D≠J)∨(D=J∧I.toList≠K.toList):=
    (Classical.em (D=J)).elim (fun t0=>(Classical.em (I=K)).elim (fun t1=>.inl ⟨t0,t1⟩) (fun t1=>.inr (.inr ⟨t0,fun e=>t1 (str_inj e)⟩))) (fun t0=>.inr (.inl t0))
   rcases ak with⟨rfl,rfl⟩|e|⟨rfl,e⟩
   ·have hl:il q (D,I)=some (T,U,V,X,Y,Z,ae):=by
     have h1:zI q (D,I)=some q[k]:=mf O (by rw[←ah.o];simp) ht.o;unfold il;rw[h1,←ah.o];rfl
    have HL:=Kz hl;have hw:aU q[k]≤1048576:=le_trans (dI aU q O) gF.o;rw[←ah.o] at hw
    have bR:aS (T,U,V,X,Y,Z,ae)≤1048576:=by
     have h:I.size+aS (T,U,V,X,Y,Z,ae)≤1048576:=hw;omega
    have HW:=Kz bR;have HX:=Kz (bJ T U V X Y Z ae cK cO dB dS dV fe fu);clear hl hw bR;go_wp2_with fail;refine(AY _ _ (T,U,V,X,Y,Z,ae) _ (Rd.gr HX.o (tg bL)) HW.o).mono ?_;rintro e w' ⟨es,fq,rfl,hr,hf,z1,rfl⟩;have iw:=Kz hr;have bX:=Kz hf;obtain⟨r0,r1,r2,r3,r4,r5,kr,ku,ky,rfl⟩:=eO hr;clear hr hf;obtain⟨y,rfl⟩:=aj.o;obtain rfl:=EB.o;go_wp2_with fail
    exact bodyPost_ret (v:=.tuple #[.agg #[.int .i64 r0,.int .i64 r1,.int .i64 r2,.int .i64 r3,.string r4,.string r5,.slice kr ku ky],.bool true])
     (by simp[results,Tryz.results143,go_sem]) rfl ⟨_,fq,by rw[HL.o];rfl,by rw[HL.o,getD_some];exact Rd.moved iw.o bX.o gd (by simp),fun c hc=>.inr (le_trans (by simp<;>omega) (bX.o.2 c hc)),gd⟩
   all_goals
    have E:=Kz e;go_wp2_with fail;refine⟨⟨k+1,by omega,Kz fun j hj zx=>?_,aj.o.trans gd,by go_num⟩,by simp[intOf];omega⟩
    by_cases gD:j<k
    ·exact ht.o j hj gD
    ·obtain rfl:j=k:=by omega
     rw[←ah.o];refine decide_eq_false fun h=>E.o ?_
     simp only[Prod.mk.injEq,true_and] at h;simp[h]
  ·have hn:il q (J,K)=none:=by
    have h1:zI q (J,K)=none:=jU fun j hj=>ht.o j hj (by omega)
    unfold il;rw[h1];rfl
   have HL:=Kz hn;clear hn;obtain⟨y,rfl⟩:=aj.o;obtain rfl:=EB.o;go_wp2_with fail
   exact bodyPost_ret (v:=.tuple #[.agg #[.int .i64 0,.int .i64 0,.int .i64 0,.int .i64 0,.string ⟨#[]⟩,.string ⟨#[]⟩,.slice none 0 0],.bool false])
    (by simp[results,Tryz.results143,go_sem]) rfl ⟨_,_,by rw[HL.o];rfl,by rw[HL.o];exact De _,by simp,gd⟩
theorem lQ{fx:List Nat}{cx:Array Value}(x:(aW d)){fn:List Nat}{cn:Array Value}(n:ag)(w:World)(hx:Rd.rd fx w cx.toList x)(hn:Rd.rd fn w cn.toList n)(hl:bF x≤1048576):
  Calls Tryz.prog 164 #[.agg cx,.agg cn] w (Found [] w (il x.2.2.2.2.1 n) ng):=by
 have HX:=Kz hx;obtain⟨x0,x1,x2,x3,q,x5,ak,au,u6,ax,ay,ve,aZ,bg,vB,rfl,rfl,-,vD,vF,vG,oH,oL,bq,o5,o9,vL,qb,q8⟩:=KV hx;have bX:=bq.op3;clear hx
 have bB:cz q≤1048576:=by
  have h:x0.size+x1.size+cu x2+cz q+df x5≤1048576:=hl;omega
 have gD:=Kz bB;clear hl bB;obtain⟨J,K,rfl,rfl,-,vO,vR⟩:=KT hn;clear hn;go_in;go_wp2_with fail;generalize hB:((w.alloc (.cells #[.string x0,.string x1,.slice ak x2.length au,.bool x3,.slice ax q.length ay,.slice aZ x5.length bg] 128)).alloc (.cells #[.int .i64 J,.string K] 181)).alloc (.cells #[.int .i64 0,.int .i64 0,.int .i64 0,.int .i64 0,.string ⟨#[]⟩,.string ⟨#[]⟩,.slice none 0 0] 165)=B;have gB:Gr w B:=gb hB;obtain⟨vX,wF,wL,w9,gF,xc⟩:=kb6 hB (w.heap.size) (.string x0) (.string x1) (.slice ak x2.length au) (.bool x3) (.slice ax q.length ay) (.slice aZ x5.length bg);obtain⟨gT,gV⟩:=kb2 hB (w.heap.size+1) (.int .i64 J) (.string K);have sB:B.heap.size=w.heap.size+3:=szB hB;have EB:=Kz hB;clear hB
 go_loopw [6] (fun s6 wr=>∃k:Nat,k≤q.length∧Ky (∀j (h:j<q.length),j<k→decide (q[j].1=(J,K))=false)∧Gr B wr∧s6=.int .i64 k) (fun s6 _=>q.length - (intOf s6).toNat)
 case atStart=>exact⟨0,by omega,Kz (by omega),Gr.refl _,rfl⟩
 case round=>
  obtain⟨k,hk,ht,hg,rfl⟩:=hrel
  rename World=>W1
  have bH:=Kz (gB.trans hg);have ai:=Kz hg;have y4:=gF _ hg;have gX:=gT _ hg;have x9:=gV _ hg;have yc:=blk y4;have yu:=blk gX;clear hg
  by_cases O:k<q.length
  ·have q9:=O
   have i0:(0:Int)≤(k:Int):=by omega
   have i1:(k:Int)<(q.length:Int):=by omega
   obtain⟨b,off,rfl,y5⟩:=bX k O;obtain⟨D,I,T,U,V,X,Y,Z,ae,sO,uf,uo,y7,ah,y8,uq,uz,cB,cK,cO,dB,dS,dV,fe,ky,lq,y9,za,zb,ze,zf,zg,zl,zn,zo,zq⟩:=KY bq O bH.o
   have aj:(D=J∧I=K)∨(D≠J)∨(D=J∧I.toList≠K.toList):=
    (Classical.em (D=J)).elim (fun t0=>(Classical.em (I=K)).elim (fun t1=>.inl ⟨t0,t1⟩) (fun t1=>.inr (.inr ⟨t0,fun e=>t1 (str_inj e)⟩))) (fun t0=>.inr (.inl t0))
   rcases aj with⟨rfl,rfl⟩|e|⟨rfl,e⟩
   ·have hl:il q (D,I)=some (T,U,V,X,Y,Z,ae):=by
     have h1:zI q (D,I)=some q[k]:=mf O (by rw[←ah.o];simp) ht.o;unfold il;rw[h1,←ah.o];rfl
    have HL:=Kz hl;have hw:aU q[k]≤1048576:=le_trans (dI aU q O) gD.o;rw[←ah.o] at hw
    have bL:aS (T,U,V,X,Y,Z,ae)≤1048576:=by
     have h:I.size+aS (T,U,V,X,Y,Z,ae)≤1048576:=hw;omega
    have HW:=Kz bL;have HX:=Kz (bJ T U V X Y Z ae cB cK cO dB dS dV fe);clear hl hw bL;go_wp2_with fail;refine wg ?_
    repeat(go_big_quiet_step (fail))
    refine wq fun nx=>?_
    go_wp2_with fail;refine(ny _ _ (T,U,V,X,Y,Z,ae) _ (Rd.gr HX.o (tg bH)) HW.o).mono ?_;rintro e w' ⟨es,fq,rfl,hr,hf,z1,rfl⟩;have ik:=Kz hr;have bR:=Kz hf;obtain⟨r0,r1,r2,r3,r4,r5,iw,kr,ku,rfl⟩:=eO hr;clear hr hf;obtain⟨y,rfl⟩:=ai.o;obtain rfl:=EB.o;go_wp2_with fail
    exact bodyPost_ret (v:=.tuple #[.agg #[.int .i64 r0,.int .i64 r1,.int .i64 r2,.int .i64 r3,.string r4,.string r5,.slice iw kr ku],.bool true])
     (by simp[results,Tryz.results164,go_sem]) rfl ⟨_,fq,by rw[HL.o];rfl,by rw[HL.o,getD_some];exact Rd.moved ik.o bR.o gd (by simp),fun c hc=>.inr (le_trans (by simp<;>omega) (bR.o.2 c hc)),gd⟩
   all_goals
    have E:=Kz e;go_wp2_with fail;refine wg ?_
    repeat(go_big_quiet_step (fail))
    refine wq fun nx=>?_
    go_wp2_with fail;refine⟨⟨k+1,by omega,Kz fun j hj zu=>?_,ai.o.trans gd,by go_num⟩,by simp[intOf];omega⟩
    by_cases fu:j<k
    ·exact ht.o j hj fu
    ·obtain rfl:j=k:=by omega
     rw[←ah.o];refine decide_eq_false fun h=>E.o ?_
     simp only[Prod.mk.injEq,true_and] at h;simp[h]
  ·have hn:il q (J,K)=none:=by
    have h1:zI q (J,K)=none:=jU fun j hj=>ht.o j hj (by omega)
    unfold il;rw[h1];rfl
   have HL:=Kz hn;clear hn;obtain⟨y,rfl⟩:=ai.o;obtain rfl:=EB.o;go_wp2_with fail
   exact bodyPost_ret (v:=.tuple #[.agg #[.int .i64 0,.int .i64 0,.int .i64 0,.int .i64 0,.string ⟨#[]⟩,.string ⟨#[]⟩,.slice none 0 0],.bool false])
    (by simp[results,Tryz.results164,go_sem]) rfl ⟨_,_,by rw[HL.o];rfl,by rw[HL.o];exact De _,by simp,gd⟩
theorem qm(b:Bool)(w:World):Calls Tryz.prog 203 #[.bool b] w fun e w'=>e=.returned (.int .i64 (if b then 1 else 0))∧w=w':=by
 cases b<;>
 ·skip
  go_in;go_wp2_with fail;go_ret;exact⟨rfl,rfl⟩
theorem lW(n t:Int)(w:World):Qz 161 #[.int .i64 n,.int .i64 t] w (.int .i64 (mY n t)):=by
 by_cases h1:t=1
 ·subst h1
  delta Qz;go_in;go_wp2_with fail;refine(ou _ _).mono ?_;rintro e w' ⟨rfl,rfl⟩;go_wp2_with fail;go_ret;exact⟨rfl,Gr.refl _⟩
 ·by_cases h:t=2
  ·subst h
   delta Qz;go_in;go_wp2_with fail;go_ret;exact⟨rfl,Gr.refl _⟩
  ·by_cases q:t=3
   ·subst q
    delta Qz;go_in
    go_wp2_with (first|(go_at_call 203;refine(qm _ _).mono ?_;rintro e w' ⟨rfl,rfl⟩))
    all_goals
     go_ret;refine⟨aC ?_,Gr.refl _⟩;unfold mY
     by_cases hn:n=0<;>simp_all
   ·by_cases B:t=4
    ·subst B
     by_cases hn:0≤n∧n≤999
     ·skip
      delta Qz;go_in;go_wp2_with fail;refine(fJ _ _ _ _ hn.1 hn.2).mono ?_;rintro e w' ⟨rfl,D,rfl⟩;go_wp2_with fail;go_ret;exact⟨aC (by unfold mY;simp[hn]),gd⟩
     ·have I:=Kz (show n<0∨999<n by omega)
      delta Qz;go_in;go_wp2_with fail;refine(eu _ _ _ _ I.o).mono ?_;rintro e w' ⟨rfl,D,rfl⟩;go_wp2_with fail;go_ret;exact⟨aC (by unfold mY;simp[hn]),gd⟩
    ·have K:(t==1)=false:=by simp[h1]
     have O:(t==2)=false:=by simp[h]
     have T:(t==3)=false:=by simp[q]
     have U:(t==4)=false:=by simp[B]
     have J:=Kz (show mY n t=0 by unfold mY;rw[if_neg h1,if_neg h,if_neg q,if_neg B]);clear h1 h q B;delta Qz;go_in;go_wp2_with fail;go_ret;exact⟨aC J.o.symm,gd⟩
theorem wU(n t:Int)(w:World):Qz 125 #[.int .i64 n,.int .i64 t] w (.bool (pB (eG n t))):=by
 by_cases ht:1≤t∧t≤4
 ·obtain⟨v,hv⟩:=nm (mY n t)
  have B:=Kz hv;have q:=Kz ht;clear hv ht;delta Qz;go_in;go_wp2_with fail;refine(fJ _ _ _ _ q.o.1 q.o.2).mono ?_;rintro e w' ⟨rfl,D,rfl⟩;go_wp2_with fail;refine(lW n t _).mono ?_;rintro e w' ⟨rfl,J,rfl⟩;rw[←B.o];go_wp2_with fail;go_ret;refine⟨aa ?_,gd⟩
  by_cases h:v=n
  ·rw[bQ ⟨q.o,by rw[←B.o];exact h⟩];simp[h]
  ·rw[bV fun k=>h (by rw[B.o];exact k.2)];simp[h]
 ·have q:=Kz (show t<1∨4<t by omega)
  have I:=Kz (bV (show¬eG n t from fun h=>ht h.1));clear ht;delta Qz;go_in;go_wp2_with fail;refine(eu _ _ _ _ q.o).mono ?_;rintro e w' ⟨rfl,D,rfl⟩;go_wp2_with fail;go_ret;exact⟨aa I.o.symm,gd⟩
def EG(n:Int)(w:World)(e:Ending)(w':World):Prop:=e=.returned (.tuple #[.int .i64 (opT n).1,.int .i64 (opT n).2.1,.int .i64 (opT n).2.2])∧Gr w w'
theorem uK(n:Int)(w:World):Calls Tryz.prog 204 #[.int .i64 n] w (EG n w):=by
 unfold EG
 by_cases h1:1≤n∧n≤5
 ·have h:=Kz (show opT n=(1,1,1) by unfold opT;rw[if_pos h1])
  go_in;go_wp2_with fail;refine(fJ _ _ _ _ h1.1 h1.2).mono ?_;rintro e w' ⟨rfl,T,rfl⟩;go_wp2_with fail;exact bodyPost_ret (v:=.tuple #[.int .i64 1,.int .i64 1,.int .i64 1]) (by simp[results,Tryz.results204,go_sem]) rfl ⟨by rw[h.o],gd⟩
 ·have D:=Kz (show n<1∨5<n by omega)
  by_cases J:6≤n∧n≤8
  ·have h:=Kz (show opT n=(2,2,2) by unfold opT;rw[if_neg h1,if_pos J])
   go_in;go_wp2_with fail;refine(eu _ _ _ _ D.o).mono ?_;rintro e w' ⟨rfl,T,rfl⟩;go_wp2_with fail;refine(fJ _ _ _ _ J.1 J.2).mono ?_;rintro e w' ⟨rfl,U,rfl⟩;go_wp2_with fail;exact bodyPost_ret (v:=.tuple #[.int .i64 2,.int .i64 2,.int .i64 2]) (by simp[results,Tryz.results204,go_sem]) rfl ⟨by rw[h.o],gd⟩
  ·have K:=Kz (show n<6∨8<n by omega)
   by_cases O:n=9
   ·have h:=Kz (show opT n=(1,1,3) by rw[O];decide)
    have Z:(n==9)=true:=by simp[O]
    clear h1 J O;go_in;go_wp2_with fail;refine(eu _ _ _ _ D.o).mono ?_;rintro e w' ⟨rfl,T,rfl⟩;go_wp2_with fail;refine(eu _ _ _ _ K.o).mono ?_;rintro e w' ⟨rfl,U,rfl⟩;go_wp2_with fail;exact bodyPost_ret (v:=.tuple #[.int .i64 1,.int .i64 1,.int .i64 3]) (by simp[results,Tryz.results204,go_sem]) rfl ⟨by rw[h.o],gd⟩
   ·have Z:(n==9)=false:=by simp[O]
    by_cases q:n=10
    ·have h:=Kz (show opT n=(1,1,3) by rw[q];decide)
     have V:(n==10)=true:=by simp[q]
     clear h1 J O q;go_in;go_wp2_with fail;refine(eu _ _ _ _ D.o).mono ?_;rintro e w' ⟨rfl,T,rfl⟩;go_wp2_with fail;refine(eu _ _ _ _ K.o).mono ?_;rintro e w' ⟨rfl,U,rfl⟩;go_wp2_with fail;exact bodyPost_ret (v:=.tuple #[.int .i64 1,.int .i64 1,.int .i64 3]) (by simp[results,Tryz.results204,go_sem]) rfl ⟨by rw[h.o],gd⟩
    ·have V:(n==10)=false:=by simp[q]
     by_cases B:n=11
     ·have h:=Kz (show opT n=(2,1,3) by rw[B];decide)
      have X:(n==11)=true:=by simp[B]
      clear h1 J O q B;go_in;go_wp2_with fail;refine(eu _ _ _ _ D.o).mono ?_;rintro e w' ⟨rfl,T,rfl⟩;go_wp2_with fail;refine(eu _ _ _ _ K.o).mono ?_;rintro e w' ⟨rfl,U,rfl⟩;go_wp2_with fail;exact bodyPost_ret (v:=.tuple #[.int .i64 2,.int .i64 1,.int .i64 3]) (by simp[results,Tryz.results204,go_sem]) rfl ⟨by rw[h.o],gd⟩
     ·have X:(n==11)=false:=by simp[B]
      by_cases I:n=12
      ·have h:=Kz (show opT n=(2,1,2) by rw[I];decide)
       have Y:(n==12)=true:=by simp[I]
       clear h1 J O q B I;go_in;go_wp2_with fail;refine(eu _ _ _ _ D.o).mono ?_;rintro e w' ⟨rfl,T,rfl⟩;go_wp2_with fail;refine(eu _ _ _ _ K.o).mono ?_;rintro e w' ⟨rfl,U,rfl⟩;go_wp2_with fail;exact bodyPost_ret (v:=.tuple #[.int .i64 2,.int .i64 1,.int .i64 2]) (by simp[results,Tryz.results204,go_sem]) rfl ⟨by rw[h.o],gd⟩
      ·have Y:(n==12)=false:=by simp[I]
       have h:=Kz (show opT n=(0,0,0) by unfold opT;rw[if_neg h1,if_neg J,if_neg (by omega),if_neg B,if_neg I]);clear h1 J O q B I;go_in;go_wp2_with fail;refine(eu _ _ _ _ D.o).mono ?_;rintro e w' ⟨rfl,T,rfl⟩;go_wp2_with fail;refine(eu _ _ _ _ K.o).mono ?_;rintro e w' ⟨rfl,U,rfl⟩;go_wp2_with fail;exact bodyPost_ret (v:=.tuple #[.int .i64 0,.int .i64 0,.int .i64 0]) (by simp[results,Tryz.results204,go_sem]) rfl ⟨by rw[h.o],gd⟩
theorem Ai{s:ByteArray}:s.toList.isEmpty=true↔s=ByteArray.empty:=by
 rw[List.isEmpty_iff];constructor
 ·intro h
  exact str_inj (by rw[h,ByteArray.toList_eq];rfl)
 ·rintro rfl
  rw[ByteArray.toList_eq];rfl
theorem AL{p:{d:Nat}→aA d→Prop}{q6:List (GE d)}:jh p (d+1) ((q0,q1,q2,q3,q4,q5,q6):aA d)↔p ((q0,q1,q2,q3,q4,q5,q6):aA d)∧∀z∈q6,jh p d z:=Iff.rfl
theorem wE{q6:List (GE d)}:cZ (d+1) ((q0,q1,q2,q3,q4,q5,q6):aA d)=1+(q6.map (cZ d)).sum:=rfl
theorem lI{α:Type}(f:α→Nat)(xs:List α)(h:k<xs.length):((xs.take (k+1)).map f).sum=((xs.take k).map f).sum+f xs[k]:=by
 rw[List.take_succ_eq_append_getElem h,map_append,List.sum_append];simp
theorem nu{α:Type}(f:α→Nat)(xs:List α)(k:Nat):((xs.take k).map f).sum≤(xs.map f).sum:=by
 conv=>rhs;rw[←List.take_append_drop k xs,map_append,List.sum_append]
 omega
def EA(m:Nat)(n:Int)(w:World)(e:Ending)(w':World):Prop:=∃r:Int,e=.returned (.int .i64 r)∧-1≤r∧((m:Int)≤n→r=n - m)∧(n<(m:Int)→r<0)∧Gr w w'
theorem uk(hE:∀(fp:List Nat) (cs:Array Value) (x:GE d) (n:Int) (w:World) (hx:Rd.rd fp w cs.toList x) (h0:0≤n) (h1:n≤1048576),Calls Tryz.prog 272 #[.agg cs,.int .i64 n] w (EA (cZ d x) n w))
  (fp:List Nat) (cs:Array Value) (x:aA d) (n:Int) (w:World) (hx:Rd.rd fp w cs.toList x) (h0:0≤n) (h1:n≤1048576):Calls Tryz.prog 272 #[.agg cs,.int .i64 n] w (EA (cZ (d+1) x) n w):=by
 obtain⟨q0,q1,q2,q3,q4,q5,q6,T,U,bR,rfl,rfl,-,bX,cB,cK,cO,dB,dS,V,bH,bL⟩:=KU hx;have J:=V.op3;have aj:=Kz V;clear hx;rw[wE];have dV:IntKind.i64.wrap (n - 1)=n - 1:=IntWalk.i64_in _ (by omega);go_in;go_wp2_with fail;generalize q:w.alloc (.cells #[.int .i64 q0,.int .i64 q1,.int .i64 q2,.int .i64 q3,.string q4,.string q5,.slice T q6.length U] 165)=B;have gB:Gr w B:=gb q;have b0:B.cell? ⟨w.heap.size,0,none⟩=some (.int .i64 q0):=by rw[←q];exact aJ rfl rfl
 have b1:B.cell? ⟨w.heap.size,1,none⟩=some (.int .i64 q1):=by rw[←q];exact aJ rfl rfl
 have b2:B.cell? ⟨w.heap.size,2,none⟩=some (.int .i64 q2):=by rw[←q];exact aJ rfl rfl
 have b3:B.cell? ⟨w.heap.size,3,none⟩=some (.int .i64 q3):=by rw[←q];exact aJ rfl rfl
 have b4:B.cell? ⟨w.heap.size,4,none⟩=some (.string q4):=by rw[←q];exact aJ rfl rfl
 have b5:B.cell? ⟨w.heap.size,5,none⟩=some (.string q5):=by rw[←q];exact aJ rfl rfl
 have b6:B.cell? ⟨w.heap.size,6,none⟩=some (.slice T q6.length U):=by rw[←q];exact aJ rfl rfl
 have ak:=Kz gB;have HB:=Kz (And.intro b0 (And.intro b1 (And.intro b2 (And.intro b3 (And.intro b4 (And.intro b5 b6))))));clear q gB b0 b1 b2 b3 b4 b5 b6
 go_loopw [5,1] (fun s5 s1 wr=>∃(k:Nat) (m:Int),k≤q6.length∧-1≤m∧m≤n∧Ky ((1+((q6.take k).map (cZ d)).sum:Nat)≤n→m=n - (1+((q6.take k).map (cZ d)).sum:Nat))∧Ky (n<((1+((q6.take k).map (cZ d)).sum:Nat):Int)→m<0)∧Ky (Gr B wr)∧s5=.int .i64 k∧s1=.int .i64 m) (fun s5 _ _=>q6.length - (intOf s5).toNat)
 case atStart=>exact⟨0,n - 1,by omega,by omega,by omega,Kz (fun _=>by simp),Kz (fun h=>by simp at h;omega),Kz (Gr.refl _),rfl,rfl⟩
 case round=>
  obtain⟨k,m,hk,X,fe,O,HL,HG,rfl,rfl⟩:=hrel
  rename World=>W1
  have hle:=nu (cZ d) q6 k;have au:=Kz hle;clear hle;have y6:=HG.o.keep HB.o.2.2.2.2.2.2;have D:=Kz (ak.o.trans HG.o)
  by_cases K:k<q6.length
  ·have Y:=Kz (lI (cZ d) q6 K)
   by_cases hm:0≤m
   ·skip
    obtain⟨d1,rfl⟩:∃e,d=e+1:=by
     cases d with
     |zero=>exact PEmpty.elim (q6[k])
     |succ e=>exact⟨e,rfl⟩
    obtain⟨b,off,rfl,hb⟩:=J k K;obtain⟨p0,p1,p2,p3,p4,p5,p6,fu,gD,gF,gT,ax,ay,-,-,-,-,-,-,-,-,-,z0,z1,z2,z3,z4,z5,z6,zb⟩:=Lc aj.o K D.o;have k0:(0:Int)≤(k:Int):=by omega
    have k1:(k:Int)<(q6.length:Int):=by omega
    have iw:=zI1 k (by omega);clear J;go_wp2_with fail;refine(hE _ _ q6[k] m _ (Rd.gr (by rw[←ax.o];exact ay.o) D.o) hm (by omega)).mono ?_;rintro e w' ⟨r,rfl,gV,Z,ae,g2⟩;have aZ:=Kz g2;have ah:=Kz Z;have ai:=Kz ae;clear g2 Z ae;go_wp2_with fail
    have I:((1+((q6.take k).map (cZ (d1+1))).sum:Nat):Int)≤n:=by
     rcases lt_or_le n ((1+((q6.take k).map (cZ (d1+1))).sum:Nat):Int) with h|h
     ·have:=HL.o h;omega
     ·exact h
    have gX:=O.o I
    have bg:r≤n:=by
     rcases lt_or_le m (cZ _ q6[k]:Int) with h|h
     ·have:=ai.o h;omega
     ·have:=ah.o h;omega
    refine⟨⟨k+1,r,by omega,by omega,bg,Kz (fun h=>?_),Kz (fun h=>?_),Kz (HG.o.trans aZ.o),by go_num,rfl⟩,by simp[intOf];omega⟩
    ·rw[Y.o] at h ⊢
     have:=ah.o (by omega);omega
    ·rw[Y.o] at h
     exact ai.o (by omega)
   ·have I:n<((1+((q6.take k).map (cZ d)).sum:Nat):Int):=by
     rcases lt_or_le n ((1+((q6.take k).map (cZ d)).sum:Nat):Int) with h|h
     ·exact h
     ·have:=O.o h;omega
    have bq:=Kz I;clear I;go_wp2_with fail;go_ret;exact⟨m,rfl,X,fun h=>by have h1:=au.o;have h2:=bq.o;omega,fun _=>by omega,D.o⟩
  ·have bB:k=q6.length:=by omega
   subst bB;rw[take_length] at O HL;go_wp2_with fail
   all_goals
    go_ret;exact⟨m,rfl,X,O.o,HL.o,D.o⟩
theorem rP:(d:Nat)→∀(fp:List Nat) (cs:Array Value) (x:GE d) (n:Int) (w:World) (h:Rd.rd fp w cs.toList x) (q:0≤n) (h1:n≤1048576),Calls Tryz.prog 272 #[.agg cs,.int .i64 n] w (EA (cZ d x) n w)
 |0=>by intro fp cs x;exact PEmpty.elim x
 |d+1=>uk (rP d)
theorem xk{d:Nat}(f:GE d→Nat)(xs:List (GE d)):∀m:Nat,(xs.map f).foldl max m=max m ((xs.map f).foldl max 0):=by
 induction xs with
 |nil=>intro m;simp
 |cons x xs h=>
  intro m
  simp only[map_cons,foldl_cons];rw[h (max m (f x)),h (max 0 (f x))];omega
theorem EU{d:Nat}(f:GE d→Nat)(xs:List (GE d))(h:k<xs.length):f xs[k]≤(xs.map f).foldl max 0:=by
 induction xs generalizing k with
 |nil=>simp at h
 |cons x xs q=>
  simp only[map_cons,foldl_cons];rw[xk f xs]
  cases k with
  |zero=>simp only[List.getElem_cons_zero];omega
  |succ k=>
   have:=q (k:=k) (by simpa using h);simp only[List.getElem_cons_succ];omega
theorem sU{d:Nat}(f:GE d→Nat)(xs:List (GE d))(k:Nat):((xs.take k).map f).foldl max 0≤(xs.map f).foldl max 0:=by
 conv=>rhs;rw[←List.take_append_drop k xs,map_append,List.foldl_append]
 rw[xk f (xs.drop k)];omega
theorem Eb:∀(d:Nat) (x:GE d),iP d x≤wtE d x+1
 |0,x=>PEmpty.elim x
 |d+1,x=>by
  obtain⟨q0,q1,q2,q3,q4,q5,q6⟩:=(x:aA d)
  show(q6.map (iP d)).foldl max 0+1≤(q4.size+q5.size+wtL (wtE d) q6)+1
  have:∀xs:List (GE d),(xs.map (iP d)).foldl max 0≤wtL (wtE d) xs:=by
   intro xs
   induction xs with
   |nil=>simp
   |cons y h q=>
    simp only[map_cons,foldl_cons,wtL,List.sum_cons,List.length_cons] at q ⊢;rw[xk (iP d) h];have:=Eb d y;omega
  have:=this q6;omega
theorem GJ{d:Nat}{q6:List (GE d)}:iP (d+1) ((q0,q1,q2,q3,q4,q5,q6):aA d)=(q6.map (iP d)).foldl max 0+1:=rfl
theorem BS{d:Nat}{xs:List (GE d)}(h:k<xs.length):((xs.take (k+1)).map (iP d)).foldl max 0=max (((xs.take k).map (iP d)).foldl max 0) (iP d xs[k]):=by
 rw[List.take_succ_eq_append_getElem h,map_append,List.foldl_append];rfl
def r9(m:Int)(w:World)(e:Ending)(w':World):Prop:=e=.returned (.int .i64 m)∧Gr w w'
theorem rW(hE:∀(fp:List Nat) (cs:Array Value) (x:GE d) (w:World) (V:Rd.rd fp w cs.toList x) (hl:iP d x≤2097152),Calls Tryz.prog 273 #[.agg cs] w (r9 (iP d x:Nat) w))
  (fp:List Nat) (cs:Array Value) (x:aA d) (w:World) (V:Rd.rd fp w cs.toList x) (Z:iP (d+1) x≤2097152):Calls Tryz.prog 273 #[.agg cs] w (r9 (iP (d+1) x:Nat) w):=by
 obtain⟨q0,q1,q2,q3,q4,q5,q6,K,O,bq,rfl,rfl,-,bB,bH,bL,bR,bX,cB,T,aZ,bg⟩:=KU V;have D:=T.op3;have ae:=Kz T;clear V;rw[GJ] at Z ⊢;go_in;go_wp2_with fail;generalize h:w.alloc (.cells #[.int .i64 q0,.int .i64 q1,.int .i64 q2,.int .i64 q3,.string q4,.string q5,.slice K q6.length O] 165)=B;have gB:Gr w B:=gb h;have b0:B.cell? ⟨w.heap.size,0,none⟩=some (.int .i64 q0):=by rw[←h];exact aJ rfl rfl
 have b1:B.cell? ⟨w.heap.size,1,none⟩=some (.int .i64 q1):=by rw[←h];exact aJ rfl rfl
 have b2:B.cell? ⟨w.heap.size,2,none⟩=some (.int .i64 q2):=by rw[←h];exact aJ rfl rfl
 have b3:B.cell? ⟨w.heap.size,3,none⟩=some (.int .i64 q3):=by rw[←h];exact aJ rfl rfl
 have b4:B.cell? ⟨w.heap.size,4,none⟩=some (.string q4):=by rw[←h];exact aJ rfl rfl
 have b5:B.cell? ⟨w.heap.size,5,none⟩=some (.string q5):=by rw[←h];exact aJ rfl rfl
 have b6:B.cell? ⟨w.heap.size,6,none⟩=some (.slice K q6.length O):=by rw[←h];exact aJ rfl rfl
 have ah:=Kz gB;have HB:=Kz (And.intro b0 (And.intro b1 (And.intro b2 (And.intro b3 (And.intro b4 (And.intro b5 b6))))));clear h gB b0 b1 b2 b3 b4 b5 b6
 go_loopw [4,3] (fun X s3 wr=>∃(k m:Nat),k≤q6.length∧Ky (m=((q6.take k).map (iP d)).foldl max 0)∧Ky (Gr B wr)∧X=.int .i64 k∧s3=.int .i64 m) (fun X _ _=>q6.length - (intOf X).toNat)
 case atStart=>exact⟨0,0,by omega,Kz rfl,Kz (Gr.refl _),rfl,rfl⟩
 case round=>
  obtain⟨k,m,hk,J,Y,rfl,rfl⟩:=hrel
  rename World=>W1
  have cK:m≤2097152:=by have h1:=J.o;have h2:=sU (iP d) q6 k;omega
  have y6:=Y.o.keep HB.o.2.2.2.2.2.2;have I:=Kz (ah.o.trans Y.o)
  by_cases q:k<q6.length
  ·have ai:=Kz (BS q)
   have U:iP d q6[k]≤2097152:=by have:=EU (iP d) q6 q;omega
   have aj:=Kz U;obtain⟨r,hr⟩:=nm (iP d q6[k]);rw[←hr] at U;have HR:=Kz hr;clear hr
   obtain⟨d1,rfl⟩:∃e,d=e+1:=by
    cases d with
    |zero=>exact PEmpty.elim (q6[k])
    |succ e=>exact⟨e,rfl⟩
   obtain⟨b,off,rfl,hb⟩:=D k q;obtain⟨p0,p1,p2,p3,p4,p5,p6,cO,dB,dS,dV,ak,au,-,-,-,-,-,-,-,-,-,z0,z1,z2,z3,z4,z5,z6,zb⟩:=Lc ae.o q I.o;have k0:(0:Int)≤(k:Int):=by omega
   have k1:(k:Int)<(q6.length:Int):=by omega
   have iw:=zI1 k (by omega);clear D;go_wp2_with fail;refine(hE _ _ q6[k] _ (Rd.gr (by rw[←ak.o];exact au.o) I.o) aj.o).mono ?_;rintro e w' ⟨rfl,g2⟩;rw[←HR.o];have ax:=Kz g2;clear g2;go_wp2_with fail;refine(mV _ _ _).mono ?_;rintro e w' ⟨rfl,rfl⟩;go_wp2_with fail;refine⟨⟨k+1,max m r,by omega,Kz (by rw[ai.o,←J.o,←HR.o]),Kz (Y.o.trans ax.o),by go_num,?_⟩,by simp[intOf];omega⟩
   congr 1
   omega
  ·have ay:k=q6.length:=by omega
   subst ay;rw[take_length] at J;have fe:=zI1 m (by omega);go_wp2_with fail;go_ret;exact⟨aC (by rw[←J.o];omega),I.o⟩
theorem pX:(d:Nat)→∀(fp:List Nat) (cs:Array Value) (x:GE d) (w:World) (h:Rd.rd fp w cs.toList x) (q:iP d x≤2097152),Calls Tryz.prog 273 #[.agg cs] w (r9 (iP d x:Nat) w)
 |0=>by intro fp cs x;exact PEmpty.elim x
 |d+1=>rW (pX d)
def jL(q0 q1 q2 q3:Int)(q4 q5:ByteArray)(n:Nat):Bool:=
 (decide ((n:Int)=(eY q0:Int)))&&(((q0==3)||(q0==6))||(q2==0))&&(((q0==3)||(q0==8))||q5.toList.isEmpty)&&(((q0==1)||(q0==4))||(q1==0))&&((q0==1)||(q3==0))&&((q0==8)||q4.toList.isEmpty)
theorem jc(q0 q1 q2 q3:Int)(q4 q5:ByteArray)(q6:List (GE d)):jL q0 q1 q2 q3 q4 q5 q6.length=pB (xJ ((q0,q1,q2,q3,q4,q5,q6):aA d)):=by
 rw[Bool.eq_iff_iff,dx];unfold jL xJ;simp only[Bool.and_eq_true,Bool.or_eq_true,beq_iff_eq,Ai,decide_eq_true_eq];constructor
 ·rintro⟨⟨⟨⟨⟨h1,h⟩,q⟩,B⟩,D⟩,I⟩
  exact⟨by show q6.length=_;omega,by show q0=3∨q0=6∨q2=0;omega,by show q0=3∨q0=8∨q5=_;exact or_assoc.1 q,by show q0=1∨q0=4∨q1=0;omega,D,I⟩
 ·rintro⟨h1,h,q,B,D,I⟩
  have h1:q6.length=eY q0:=h1;have h:q0=3∨q0=6∨q2=0:=h;have B:q0=1∨q0=4∨q1=0:=B;exact⟨⟨⟨⟨⟨by omega,by omega⟩,or_assoc.2 q⟩,by omega⟩,D⟩,I⟩
theorem BH(fp:List Nat)(cs:Array Value)(x:aA d)(w:World)(B:Rd.rd fp w cs.toList x):Qz 300 #[.agg cs] w (.bool (pB (xJ x))):=by
 obtain⟨q0,q1,q2,q3,q4,q5,q6,J,K,O,rfl,rfl,-,T,U,V,X,Y,Z,D,-,-⟩:=KU B;have h:=D.op3;clear B;rw[←jc];obtain⟨R,q⟩:=nm (jL q0 q1 q2 q3 q4 q5 q6.length);rw[←q];have I:=Kz q;clear q;delta Qz;go_in;go_wp2_with fail
 go_ways
 all_goals
  go_ret;refine⟨aa ?_,gd⟩;rw[I.o];clear I h
  simp_all [jL,eY]
def jg(q0 q1 q2 q3:Int)(q B D h:Bool):Bool:=
 (decide (1≤q0)&&decide (q0≤8))&&q&&(if q0=1 then(decide (1≤q3)&&decide (q3≤3))&&B&&decide (0≤q1) else if q0=3 then(decide (0≤q2)&&decide (q2≤3))&&h else if q0=6 then decide (0≤q2)&&decide (q2≤3) else if q0=4 then decide (1≤q1)&&decide (q1≤12) else if q0=8 then D&&h else true)
theorem jd(q0 q1 q2 q3:Int)(q4 q5:ByteArray)(q6:List (GE d)):jg q0 q1 q2 q3 (pB (xJ ((q0,q1,q2,q3,q4,q5,q6):aA d))) (pB (eG q1 q3)) (pB (dh q4)) (pB (dh q5))=pB (jJ ((q0,q1,q2,q3,q4,q5,q6):aA d)):=by
 rw[Bool.eq_iff_iff,dx];unfold jg jJ;generalize xJ ((q0,q1,q2,q3,q4,q5,q6):aA d)=b
 show _↔(1≤q0∧q0≤8)∧b∧(q0=1→(1≤q3∧q3≤3)∧eG q1 q3∧0≤q1)∧(q0=3→(0≤q2∧q2≤3)∧dh q5)∧(q0=6→0≤q2∧q2≤3)∧(q0=4→1≤q1∧q1≤12)∧(q0=8→dh q4∧dh q5)
 by_cases h1:q0=1
 ·subst h1;simp[dx,and_assoc]
 by_cases h:q0=3
 ·subst h;simp[dx,and_assoc]
 by_cases q:q0=6
 ·subst q;simp[dx,and_assoc]
 by_cases B:q0=4
 ·subst B;simp[dx,and_assoc]
 by_cases D:q0=8
 ·subst D;simp[dx,and_assoc]
 simp[h1,h,q,B,D,dx]
theorem ug(n:Int)(w:World):Calls Tryz.prog 186 #[.int .i64 n] w fun e w'=>e=.returned (.int .i64 (sat n))∧w=w':=by
 go_in;go_wp2_with fail
 all_goals
  go_ret;refine⟨aC ?_,rfl⟩;unfold sat
  first|(trace_state;omega)
theorem qP(b:Bool)(w:World):Calls Tryz.prog 187 #[.bool b] w fun e w'=>e=.returned (.int .i64 (if b then 1 else 0))∧w=w':=by
 cases b<;>
 ·skip
  go_in;go_wp2_with fail;go_ret;exact⟨rfl,rfl⟩
theorem lY(n:Int)(w:World):Qz 259 #[.int .i64 n] w (.bool (decide (1≤n)&&decide (n≤4))):=by
 delta Qz;go_in;go_wp2_with fail;refine(di n 1 4 _).mono ?_;rintro e w' ⟨rfl,rfl⟩;go_wp2_with fail;go_ret;exact⟨rfl,Gr.refl _⟩
theorem lU(n t:Int)(w:World):Qz 185 #[.int .i64 n,.int .i64 t] w (.int .i64 (mY n t)):=by
 obtain⟨R,h⟩:=nm (mY n t);rw[←h];have q:=Kz h;clear h;delta Qz;go_in
 go_wp2_with (first|(go_at_call 186;refine(ug _ _).mono ?_;rintro e w' ⟨rfl,rfl⟩)|(go_at_call 187;refine(qP _ _).mono ?_;rintro e w' ⟨rfl,rfl⟩)|(go_at_call 137;refine(di _ _ _ _).mono ?_;rintro e w' ⟨rfl,rfl⟩))
 go_ways
 all_goals
  go_ret;refine⟨aC ?_,gd⟩;rw[q.o];clear q;unfold mY
  first|(simp_all;done)|(split<;>simp_all<;>omega)
theorem fV(n t:Int)(w:World):Qz 293 #[.int .i64 n,.int .i64 t] w (.bool (pB (eG n t))):=by
 by_cases ht:1≤t∧t≤4
 ·obtain⟨v,hv⟩:=nm (mY n t)
  have q:=Kz hv;have B:=Kz ht;have hb:(decide (1≤t)&&decide (t≤4))=true:=by rw[decide_eq_true ht.1,decide_eq_true ht.2];rfl
  clear hv ht;delta Qz;go_in;go_wp2_with fail;refine(lY _ _).mono ?_;rintro e w' ⟨rfl,D,rfl⟩;rw[hb];go_wp2_with fail;refine(lU n t _).mono ?_;rintro e w' ⟨rfl,J,rfl⟩;rw[←q.o];go_wp2_with fail;go_ret;refine⟨aa ?_,gd⟩
  by_cases h:v=n
  ·rw[bQ ⟨B.o,by rw[←q.o];exact h⟩];simp[h]
  ·rw[bV fun k=>h (by rw[q.o];exact k.2)];simp[h]
 ·have hb:(decide (1≤t)&&decide (t≤4))=false:=Bool.and_eq_false_iff.2 (by by_cases h:1≤t<;>simp_all<;>omega)
  have I:=Kz (bV (show¬eG n t from fun h=>ht h.1));clear ht;delta Qz;go_in;go_wp2_with fail;refine(lY _ _).mono ?_;rintro e w' ⟨rfl,D,rfl⟩;rw[hb];go_wp2_with fail;go_ret;exact⟨aa I.o.symm,gd⟩
theorem uO(n:Int)(w:World):Calls Tryz.prog 184 #[.int .i64 n] w (EG n w):=by
  unfold EG;obtain⟨R,D⟩:=nm (opT n);rw[←D];have q:=Kz D;clear D
  by_cases B:1≤n∧n≤12
  · have I:=Kz B
    clear B;go_in;go_wp2_with fail
    all_goals
      first
      | (have hn:=eq_of_beq ‹(n==_)=true›
         subst hn
         first
         |(refine bodyPost_ret (v:=.tuple #[.int .i64 1,.int .i64 1,.int .i64 1]) ?_ rfl ⟨?_,gd⟩;(focus (simp[results,Tryz.results184,go_sem];done));(rw[q.o];rfl))
         |(refine bodyPost_ret (v:=.tuple #[.int .i64 2,.int .i64 2,.int .i64 2]) ?_ rfl ⟨?_,gd⟩;(focus (simp[results,Tryz.results184,go_sem];done));(rw[q.o];rfl))
         |(refine bodyPost_ret (v:=.tuple #[.int .i64 1,.int .i64 1,.int .i64 3]) ?_ rfl ⟨?_,gd⟩;(focus (simp[results,Tryz.results184,go_sem];done));(rw[q.o];rfl))
         |(refine bodyPost_ret (v:=.tuple #[.int .i64 2,.int .i64 1,.int .i64 3]) ?_ rfl ⟨?_,gd⟩;(focus (simp[results,Tryz.results184,go_sem];done));(rw[q.o];rfl))
         |(refine bodyPost_ret (v:=.tuple #[.int .i64 2,.int .i64 1,.int .i64 2]) ?_ rfl ⟨?_,gd⟩;(focus (simp[results,Tryz.results184,go_sem];done));(rw[q.o];rfl)))
      |(exfalso;have h:=I.o;simp only[beq_eq_false_iff_ne,ne_eq] at*;omega)
     
  · have J:=Kz (show R=(0,0,0) by rw[q.o];unfold opT;rw[if_neg (by omega),if_neg (by omega),if_neg (by omega),if_neg (by omega),if_neg (by omega)])
    have U:(n==1)=false:=by rw[beq_eq_false_iff_ne];omega
    have V:(n==2)=false:=by rw[beq_eq_false_iff_ne];omega
    have X:(n==3)=false:=by rw[beq_eq_false_iff_ne];omega
    have Y:(n==4)=false:=by rw[beq_eq_false_iff_ne];omega
    have Z:(n==5)=false:=by rw[beq_eq_false_iff_ne];omega
    have e6:(n==6)=false:=by rw[beq_eq_false_iff_ne];omega
    have e7:(n==7)=false:=by rw[beq_eq_false_iff_ne];omega
    have e8:(n==8)=false:=by rw[beq_eq_false_iff_ne];omega
    have e9:(n==9)=false:=by rw[beq_eq_false_iff_ne];omega
    have K:(n==10)=false:=by rw[beq_eq_false_iff_ne];omega
    have O:(n==11)=false:=by rw[beq_eq_false_iff_ne];omega
    have T:(n==12)=false:=by rw[beq_eq_false_iff_ne];omega
    clear B;go_in;go_wp2_with fail;exact bodyPost_ret (v:=.tuple #[.int .i64 0,.int .i64 0,.int .i64 0]) (by simp[results,Tryz.results184,go_sem]) rfl ⟨by rw[J.o],gd⟩
end Go.Proofs.YtleafadpfeibfaaGreat
