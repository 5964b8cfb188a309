/- Contracts and laws towards ReadsOf, part 31 of 54. No condition. -/
import Derived.Test.YtleafadpfeibfaaGreatRx27
import Derived.Test.YtleafadpfeibfaaGreatRx28
set_option maxHeartbeats 32000000
set_option maxRecDepth 10000
set_option linter.unusedVariables false
set_option linter.unusedSimpArgs false
namespace Go.Proofs.YtleafadpfeibfaaGreat
open Go.RowKit
open _root_.List (getElem_mem map_append take_length)
variable{d:Nat}
variable{t:List aT}{k:Nat}{fp fo:List Nat}{u:Value}{co:Array Value}
theorem bE.Kg{w0 w:World}(e:TypeId)(h:w0.heap.size≤w.heap.size){g:Nat}(hg:g=w.heap.size){y:Int}(q:(Lit.int .i64 y).wf=true):bE (α:=Int) w0 e (w.alloc (.cells #[.int .i64 y] e)) (.slice (some ⟨g,0,none⟩) 1 1) [[]] [y]:=by
 subst hg;exact⟨⟨[[.int .i64 y]],World.ownsRow_lit w #[.int .i64 y] 1 h (by decide) (by simp[Rd.n]),Els.one (rO q _)⟩,fun _ _=>by simp⟩
def KI(t:List aT)(k:Int):List Int:=match nth t k with|none=>[]|some n=>[n.1]
def iB(t:List aT)(i:Int):List Int:=match nth t i with|none=>[]|some n=>(i::n.2.2.2.2.2).flatMap (KI t)
theorem wo(h:k<t.length):KI t (k:Int)=[t[k].1]:=by unfold KI;rw[gG h]
theorem BK{k:Int}(h:k<0∨(t.length:Int) - 1<k):KI t k=[]:=by unfold KI;rw[jY h]
theorem Hl(t:List aT)(k:Int):(KI t k).length≤1:=by unfold KI;split<;>simp
theorem ES(t:List aT)(L:List Int):(L.flatMap (KI t)).length≤L.length:=by
 have:=uU (KI t) 1 L fun x _=>Hl t x
 omega
theorem Bg(h:k<t.length):iB t (k:Int)=((k:Int)::t[k].2.2.2.2.2).flatMap (KI t):=by unfold iB;rw[gG h]
theorem BL{k:Int}(h:k<0∨(t.length:Int) - 1<k):iB t k=[]:=by unfold iB;rw[jY h]
theorem Ah(h:gY t≤1048576)(hk:k<t.length):t[k].2.2.2.2.2.length≤1048576:=by
 have h1:fT t[k]≤wtL fT t:=dI fT t hk;have q:fT t[k]=t[k].2.2.2.2.1.size+t[k].2.2.2.2.2.length:=rfl;have B:wtL fT t≤1048576:=h;omega
def gL(xs:List av)(x:av):Int:=idxOf (fun y=>decide (y=x)) xs
theorem uM{α:Type}{p:α→Bool}{xs:List α}(h:k<xs.length)(hb:∀j (h:j<xs.length),j<k→p xs[j]=false)(hk:p xs[k]=false):∀j (h:j<xs.length),j<k+1→p xs[j]=false:=by
 intro j q D
 by_cases B:j<k
 ·exact hb j q B
 ·obtain rfl:j=k:=by omega
  exact hk
theorem ui(xs:List av)(x:av):gL xs x= -1∨∃k:Nat,gL xs x=k∧∃h:k<xs.length,xs[k]=x:=by
 unfold gL
 induction xs with
 |nil=>left;rfl
 |cons y J B=>
  by_cases q:y=x
  ·right
   refine⟨0,?_,by simp,q⟩;unfold idxOf;simp[q]
  ·rcases B with h|⟨k,h1,D,I⟩
   ·left
    unfold idxOf;simp only[decide_eq_false q,h];simp
   ·right
    refine⟨k+1,?_,by simpa using D,by simpa using I⟩;unfold idxOf;simp only[decide_eq_false q,h1];simp;omega
theorem nC(xs:List av)(o:av)(w:World)(Y:SlR fp w u xs)(ho:Rd.rd fo w co.toList o):
  Qz 38 #[u,.agg co] w (.int .i64 (gL xs o)):=by
 have HX:=Kz Y;obtain⟨ax,kx,rfl,ay,aZ,ae⟩:=Y.open;obtain⟨q,D,rfl,rfl,-,bg,bq⟩:=K7 ho;clear ho;clear Y
 show Calls _ _ _ _ fun e w'=>e=.returned (.int .i64 (idxOf (fun y=>decide (y=(q,D))) xs))∧Gr w w'
 (try delta Qz);go_in;go_wp2_with fail;generalize Z:(w.alloc (.cells #[.int .i64 q,.string D] 45))=B;have gB:Gr w B:=gb Z;obtain⟨ah,ai⟩:=kb2 Z (w.heap.size) (.int .i64 q) (.string D);clear Z
 go_loopw [5] (fun s5 wr=>∃k:Nat,k≤xs.length∧Ky (∀j (h:j<xs.length),j<k→decide (xs[j]=(q,D))=false)∧Ky (Gr B wr)∧s5=.int .i64 k) (fun s5 _=>xs.length - (intOf s5).toNat)
 case atStart=>exact⟨0,by omega,Kz (fun j h hj=>by omega),Kz (Gr.refl _),rfl⟩
 case round=>
  obtain⟨k,hk,HN,T,rfl⟩:=hrel
  rename World=>W1
  have J:=Kz (gB.trans T.o);have y0:=ah _ T.o;have y1:=ai _ T.o
  by_cases I:k<xs.length
  ·skip
   obtain⟨b,off,rfl,hb⟩:=ae k I;obtain⟨K,U,X,-,aj,ak,z0,z1,zb⟩:=Lh HX.o I J.o;have k0:(0:Int)≤(k:Int):=by omega
   have k1:(k:Int)<(xs.length:Int):=by omega
   have iw:=zI1 k (by omega);have au:=Kz (fun h=>uM (p:=fun y=>decide (y=(q,D))) I HN.o h);clear aj ak
   have V:(K=q∧U=D)∨(K≠q)∨(K=q∧U.toList≠D.toList):=
    (Classical.em (K=q)).elim (fun t0=>(Classical.em (U=D)).elim (fun t1=>.inl ⟨t0,t1⟩) (fun t1=>.inr (.inr ⟨t0,fun e=>t1 (str_inj e)⟩))) (fun t0=>.inr (.inl t0))
   rcases V with⟨rfl,rfl⟩|e|⟨rfl,e⟩
   ·have O:=Kz (iH (p:=fun y=>decide (y=(K,U))) I (by rw[←X.o];simp) HN.o)
    go_wp2_with fail
    go_region
    all_goals
     go_wp2_with fail;go_ret;exact⟨aC O.o.symm,J.o.trans gd⟩
   all_goals
    have O:=Kz (au.o (by
     rw[←X.o];refine decide_eq_false fun h=>?_
     simp only[Prod.mk.injEq,true_and] at h
     first|exact e h.1|(rw[h] at e;exact e rfl)|exact e (congrArg ByteArray.toList h)))
    go_wp2_with fail
    go_region
    all_goals
     go_wp2_with fail;exact⟨⟨k+1,by omega,O,Kz (tg T),by go_num⟩,by simp[intOf];omega⟩
  ·obtain rfl:k=xs.length:=by omega
   have O:=Kz (gu (p:=fun y=>decide (y=(q,D))) fun j hj=>HN.o j hj hj);go_wp2_with fail;go_ret;exact⟨aC O.o.symm,J.o⟩
theorem Au(xs:List av)(o:av)(w:World)(Y:SlR fp w u xs)(ho:Rd.rd fo w co.toList o):
  Qz 76 #[u,.agg co] w (.int .i64 (gL xs o)):=by
 have HX:=Kz Y;obtain⟨ax,kx,rfl,ay,aZ,ae⟩:=Y.open;obtain⟨q,D,rfl,rfl,-,bg,bq⟩:=K7 ho;clear ho;clear Y
 show Calls _ _ _ _ fun e w'=>e=.returned (.int .i64 (idxOf (fun y=>decide (y=(q,D))) xs))∧Gr w w'
 (try delta Qz);go_in;go_wp2_with fail;generalize Z:(w.alloc (.cells #[.int .i64 q,.string D] 45))=B;have gB:Gr w B:=gb Z;obtain⟨ah,ai⟩:=kb2 Z (w.heap.size) (.int .i64 q) (.string D);clear Z
 go_loopw [8] (fun s5 wr=>∃k:Nat,k≤xs.length∧Ky (∀j (h:j<xs.length),j<k→decide (xs[j]=(q,D))=false)∧Ky (Gr B wr)∧s5=.int .i64 k) (fun s5 _=>xs.length - (intOf s5).toNat)
 case atStart=>exact⟨0,by omega,Kz (fun j h hj=>by omega),Kz (Gr.refl _),rfl⟩
 case round=>
  obtain⟨k,hk,HN,T,rfl⟩:=hrel
  rename World=>W1
  have J:=Kz (gB.trans T.o);have y0:=ah _ T.o;have y1:=ai _ T.o
  by_cases I:k<xs.length
  ·skip
   obtain⟨b,off,rfl,hb⟩:=ae k I;obtain⟨K,U,X,-,aj,ak,z0,z1,zb⟩:=Lh HX.o I J.o;have k0:(0:Int)≤(k:Int):=by omega
   have k1:(k:Int)<(xs.length:Int):=by omega
   have iw:=zI1 k (by omega);have au:=Kz (fun h=>uM (p:=fun y=>decide (y=(q,D))) I HN.o h);clear aj ak
   have V:(K=q∧U=D)∨(K≠q)∨(K=q∧U.toList≠D.toList):=
    (Classical.em (K=q)).elim (fun t0=>(Classical.em (U=D)).elim (fun t1=>.inl ⟨t0,t1⟩) (fun t1=>.inr (.inr ⟨t0,fun e=>t1 (str_inj e)⟩))) (fun t0=>.inr (.inl t0))
   rcases V with⟨rfl,rfl⟩|e|⟨rfl,e⟩
   ·have O:=Kz (iH (p:=fun y=>decide (y=(K,U))) I (by rw[←X.o];simp) HN.o)
    go_wp2_with fail
    go_region
    all_goals
     go_wp2_with fail;go_ret;exact⟨aC O.o.symm,J.o.trans gd⟩
   all_goals
    have e':=Ne.symm e
    have O:=Kz (au.o (by
     rw[←X.o];refine decide_eq_false fun h=>?_
     simp only[Prod.mk.injEq,true_and] at h
     first|exact e h.1|(rw[h] at e;exact e rfl)|exact e (congrArg ByteArray.toList h)))
    go_wp2_with fail
    go_region
    all_goals
     go_wp2_with fail;exact⟨⟨k+1,by omega,O,Kz (tg T),by go_num⟩,by simp[intOf];omega⟩
  ·obtain rfl:k=xs.length:=by omega
   have O:=Kz (gu (p:=fun y=>decide (y=(q,D))) fun j hj=>HN.o j hj hj);go_wp2_with fail;go_ret;exact⟨aC O.o.symm,J.o⟩
theorem wH(xs:List av)(o:av)(w:World)(h:SlR fp w u xs)(q:Rd.rd fo w co.toList o):
  Qz 43 #[u,.agg co] w (.int .i64 (gL xs o)):=by
 have B:=Kz h;obtain⟨T,U,rfl,-,-,-⟩:=h.open;have D:=Kz q;obtain⟨I,J,rfl,rfl,-,K,O⟩:=K7 q;clear q;clear h;delta Qz;go_in;go_wp2_with fail;refine(Au xs (I,J) _ (B.o.gr gd) (Rd.gr D.o gd)).mono ?_;rintro e w' ⟨rfl,V,rfl⟩;go_wp2_with fail;go_ret;exact⟨rfl,gd⟩
def FL(g:af d)(r:aW d):Prop:=∀o∈mg g r,∃q∈r.2.2.2.2.1,q.1=o
theorem zM{es:List (aX d)}{o:ag}:(il es o).isSome=true↔∃q∈es,q.1=o:=by
 unfold il zI;rw[Option.isSome_map,List.find?_isSome];constructor
 ·rintro⟨q,h1,h⟩;exact⟨q,h1,of_decide_eq_true h⟩
 ·rintro⟨q,h1,h⟩;exact⟨q,h1,decide_eq_true h⟩
set_option maxRecDepth 100000 in
theorem Cj{fg fr:List Nat}{cg cr:Array Value}(g:af d)(r:aW d)(w:World)(hg:Rd.rd fg w cg.toList g)(hr:Rd.rd fr w cr.toList r)(hl:aP g≤1048576)(ax:bF r≤1048576):
  Qz 195 #[.agg cg,.agg cr] w (.bool (!pB (FL g r))):=by
 have cO:=Kz hl;have ay:=Kz ax;clear hl ax;have HG:=Kz hg;obtain⟨g0,g1,ag0,kg0,vD,ag1,kg1,vF,rfl,rfl,-,vG,q8,q9,D,sO,uf⟩:=yt hg;clear hg;have HR:=Kz hr;obtain⟨K,O,J,U,I,T,aZ,bg,vL,bq,bB,vO,bH,bL,vR,rfl,rfl,-,vX,wF,wL,uo,uq,w9,uz,u6,xc,ve,vB⟩:=KV hr;clear hr
 have dB:J.length≤1048576:=by
  have h1:K.size+O.size+wtL ByteArray.size J+wtL aU I+wtL aI T≤1048576:=ay.o;have h2:=bT ByteArray.size J;omega
 obtain⟨Q,hQ⟩:=nm (mg (g0,g1) (K,O,J,U,I,T));have ae:=Kz hQ;clear hQ;delta Qz;go_in;go_wp2_with fail;refine(uN (g0,g1) (K,O,J,U,I,T) _ (Rd.gr HG.o gd) (Rd.gr HR.o gd) cO.o dB).mono ?_;rintro e w' ⟨v,fq,rfl,hs,hf,x1,rfl⟩;rw[←ae.o] at hs;generalize hB:(((w.alloc (.cells #[.slice ag0 g0.length kg0,.slice ag1 g1.length kg1] 39)).alloc (.cells #[.string K,.string O,.slice aZ J.length bg,.bool U,.slice bq I.length bB,.slice bH T.length bL] 128)).ext x1)=B;have gB:Gr w B:=gb hB;obtain⟨dS,dV,fe,fu,gD,gF⟩:=kb6 hB (w.heap.size+1) (.string K) (.string O) (.slice aZ J.length bg) (.bool U) (.slice bq I.length bB) (.slice bH T.length bL);have EB:=Kz hB;clear hB;replace hs:SlR fq B v Q:=by rw[←EB.o];exact hs
 obtain⟨aq,kq,rfl,x9,yc,gT⟩:=hs.open;have HS:=Kz hs;clear hs hf;go_wp2_with fail
 go_loopw [6] (fun s6 wr=>∃k:Nat,k≤Q.length∧Ky (∀o∈Q.take k,∃q∈I,q.1=o)∧Gr B wr∧s6=.int .i64 k) (fun s6 _=>Q.length - (intOf s6).toNat)
 case atStart=>exact⟨0,by omega,Kz (by simp),gd,rfl⟩
 case round=>
  obtain⟨k,hk,HA,D,rfl⟩:=hrel
  rename World=>W1
  have bR:=Kz D;have ah:=Kz (gB.trans D)
  by_cases Y:k<Q.length
  ·have gV:=Kz (fun h=>dD Y HA.o h)
   have cB:=Kz (getElem_mem Y);have hs:=HS.o;obtain⟨b,off,rfl,hb⟩:=gT k Y;obtain⟨gX,yu,ai,Z,-⟩:=hs.at Y;obtain⟨yp,hyp⟩:=nm (Q[k]);rw[←hyp] at Z;have bX:=Kz hyp;have ik:=Kz Z;obtain⟨V,X⟩:=yp;obtain⟨aj,-,kr,ku⟩:=bu (cs:=gX.toArray) V X (by simpa using Z);obtain rfl:=toL aj;have ky:∀w':World,Gr W1 w'→w'.cell? ⟨b,off+k*2,none⟩=some (.int .i64 V):=fun w' h=>h.keep (D.keep (show B.cell? ⟨b,off+k*2,none⟩=some (.int .i64 V) from by simpa[Rd.n] using ai 0 _ rfl))
   have lq:∀w':World,Gr W1 w'→w'.cell? ⟨b,off+k*2+1,none⟩=some (.string X):=fun w' h=>h.keep (D.keep (show B.cell? ⟨b,off+k*2+1,none⟩=some (.string X) from ai 1 _ rfl))
   have k0:(0:Int)≤(k:Int):=by omega
   have k1:(k:Int)<(Q.length:Int):=by omega
   have iw:=zI1 k (by omega);have y2:=dS _ D;have y3:=dV _ D;have y4:=fe _ D;have y5:=fu _ D;have y6:=gD _ D;have y7:=gF _ D;have oH:=fun(w':World) (h:Gr W1 w')=>(⟨h.keep y2,h.keep y3,h.keep y4,h.keep y5,h.keep y6,h.keep y7⟩:_∧_∧_∧_∧_∧_)
   obtain⟨R,hR⟩:=nm ((il I (V,X)).isSome);have ak:=Kz hR;clear hs aj ai Z hyp D hR kr ku
   go_upto_region 5 with fail
   go_cut [8] (fun sp wx=>Ez W1 R sp wx)
   case first=>
    go_region_held3 (fun w'=>Gr W1 w') (exact ga)
     (first|(go_at_call 164;refine(lQ (K,O,J,U,I,T) (V,X) _ (Rd.gr HR.o (ah.o.trans ga)) (Rd.gr ik.o (bR.o.trans ga)) ay.o).mono ?_;rintro e w' ⟨es,oL,rfl,hr,o5,x3,rfl⟩;obtain⟨bb,au⟩:∃b:Bool,b=(il I (V,X)).isSome:=⟨_,rfl⟩;change Rd.rd oL _ es.toList ((il I (V,X)).getD ng) at hr;rw[←au];have o9:=Kz au;obtain⟨t0,t1,t2,t3,t4,t5,y8,y9,za,rfl⟩:=eO hr;clear o5 hr au))
    all_goals
     go_wp2_with fail;go_meet;have hb:bb=R:=o9.o.trans ak.o.symm;subst hb;exact⟨rfl,gd⟩
   case rest=>
    obtain⟨rfl,g2⟩:=hcut
    rename World=>W2
    have qb:=Kz (bR.o.trans g2);have cK:=Kz (ah.o.trans g2);clear oH y2 y3 y4 y5 y6 y7 g2 ky lq
    cases R with
    |true=>
     go_wp2_with fail;refine⟨⟨k+1,by omega,Kz (gV.o ?_),qb.o,by go_num⟩,by simp[intOf];omega⟩;rw[←bX.o];exact zM.1 ak.o.symm
    |false=>
     go_wp2_with fail;go_ret
     exact⟨aa (by rw[bV (show¬FL (g0,g1) (K,O,J,U,I,T) from fun h=>by
      have h1:=h _ (by rw[←ae.o];exact cB.o);rw[←bX.o] at h1;exact absurd (ak.o.trans (zM.2 h1)) (by decide))];rfl),cK.o⟩
  ·obtain rfl:k=Q.length:=by omega
   rw[take_length] at HA;go_wp2_with fail;go_ret;exact⟨aa (by rw[bQ (show FL (g0,g1) (K,O,J,U,I,T) from fun o ho=>HA.o o (by rw[ae.o];exact ho))];rfl),ah.o⟩
def qd(g:af d)(r:aW d):Prop:=(∀q∈r.2.2.2.2.1,q.1∈mg g r)∧zh Prod.fst r.2.2.2.2.1
set_option maxRecDepth 100000 in
theorem Bc{fg fr:List Nat}{cg cr:Array Value}(g:af d)(r:aW d)(w:World)(hg:Rd.rd fg w cg.toList g)(hr:Rd.rd fr w cr.toList r)(hl:aP g≤1048576)(bB:bF r≤1048576):
  Qz 196 #[.agg cg,.agg cr] w (.bool (!pB (qd g r))):=by
 obtain⟨i0,hi⟩:=info_parts Tryz.nX;have HZ:=Kz hi;clear hi;have gV:=Kz hl;have HG:=Kz hg;obtain⟨g0,g1,ag0,kg0,wL,ag1,kg1,w9,rfl,rfl,-,xc,uq,uz,x9,u6,ve⟩:=yt hg;clear hg;have HR:=Kz hr;obtain⟨Y,Z,U,r3,D,r5,gX,ik,yc,bH,bL,yu,kr,ku,y5,rfl,rfl,-,y7,y8,y9,vB,vD,bR,vF,vG,za,vL,vO⟩:=KV hr;have cO:=bR.op3;clear hr;have ky:Y.size+Z.size+wtL ByteArray.size U+wtL aU D+wtL aI r5≤1048576:=bB;have lq:U.length≤1048576:=by have:=bT ByteArray.size U;omega
 have zb:D.length≤1048576:=by have:=bT aU D;omega
 obtain⟨Q,hQ⟩:=nm (mg (g0,g1) (Y,Z,U,r3,D,r5));have ah:=Kz hQ;clear hQ hl bB ky;delta Qz;go_in;go_wp2_with fail;refine(uN (g0,g1) (Y,Z,U,r3,D,r5) _ (Rd.gr HG.o gd) (Rd.gr HR.o gd) gV.o lq).mono ?_;rintro e w' ⟨v,fq,rfl,hs,hf,x1,rfl⟩;rw[←ah.o] at hs;generalize hB:(((w.alloc (.cells #[.slice ag0 g0.length kg0,.slice ag1 g1.length kg1] 39)).alloc (.cells #[.string Y,.string Z,.slice gX U.length ik,.bool r3,.slice bH D.length bL,.slice kr r5.length ku] 128)).ext x1)=B;have gB:Gr w B:=gb hB;have oH:=kb hB (w.heap.size+1) 4 (.slice bH D.length bL);have sB:B.heap.size=w.heap.size+2+x1.objs.size:=szB hB;have EB:=Kz hB;clear hB;replace hs:SlR fq B v Q:=by rw[←EB.o];exact hs
 obtain⟨aq,kq,rfl,ze,zf,zg⟩:=hs.open;have HS:=Kz hs;clear hs hf;go_wp2_with fail
 go_loopw [7,6] (fun s7 s6 wr=>∃(k:Nat) (fps:List (List Nat)),k≤D.length∧Ky (fps.flatten=[])∧Ky (∀q∈D.take k,q.1∈Q)∧Ky (zh Prod.fst (D.take k))∧Gr B wr∧bE (α:=ag) B 181 wr s6 fps ((D.take k).map Prod.fst)∧s7=.int .i64 k) (fun s7 _ _=>D.length - (intOf s7).toNat)
 case atStart=>exact⟨0,[],by omega,Kz rfl,Kz (by simp),Kz (by intro i h;simp at h),gd,bE.kF (α:=ag) (w0:=B) 181 (Nat.le_refl _) (by omega),rfl⟩
 case round=>
  obtain⟨k,fps,hk,HF,HA,HD,O,hown,rfl⟩:=hrel
  rename World=>W1
  have oL:=Kz O;have bX:=Kz hown;obtain⟨L,hL⟩:=nm ((D.take k).map Prod.fst);have o5:L.length=k:=by rw[hL];simp;omega
  have zl:L.length≤1048576:=by omega
  clear o5;obtain⟨ra,rc,ae⟩:=hown.form;rw[←hL] at ae;subst ae;have K:=Kz hL;have y6:=oH _ O;have ai:=gB.trans O;have aj:=Kz ai;clear hown hL
  by_cases T:k<D.length
  ·have o9:=Kz (fun h=>dD T HA.o h)
   have qb:=Kz (xx T HD.o);have q8:=Kz (Aa (f:=Prod.fst) (xs:=D) T);have dB:=Kz (getElem_mem T);obtain⟨zn,ak,-⟩:=bX.o.fresh (by rw[←K.o];unfold bn;omega) (by rw[HF.o];exact aY.nil _);rw[←K.o] at ak;have HN:=Kz ak;have q9:=Kz (HS.o.gr O);clear ak O;obtain⟨b,off,rfl,zo⟩:=cO k T;obtain⟨I,J,zq,zx,zy,zH,zL,zO,z8,vR,vX,wF,A7,X,BM,au,ax,dS,dV,fe,fu,gD,gF,gT,uf,uo,E5,FX,F4,F5,F6,F8,Ha,He,HV,HY⟩:=KY bR T ai;have k0:(0:Int)≤(k:Int):=by omega
   have k1:(k:Int)<(D.length:Int):=by omega
   have iw:=zI1 k (by omega);have ay:=Kz (fun W=>bO (w:=W) I J au ax)
   have sO:=Kz (show(D.take (k+1)).map Prod.fst=L++[(I,J)] by
    rw[List.take_succ_eq_append_getElem T,map_append,K.o,←X.o];rfl)
   clear ai au ax dS dV fe fu gD gF gT;go_wp2_with fail;generalize hC:(W1.alloc (.cells #[.int .i64 I,.string J] 181))=C;have gC:Gr W1 C:=gb hC;have VC:=Kz (show az C W1.heap.size 181 [.int .i64 I,.string J] from by rw[←hC];exact az.new rfl);have cB:=Kz gC;clear hC gC y6;refine(qc Q (I,J) _ (q9.o.gr cB.o) (ay.o _)).mono ?_;rintro e w' ⟨rfl,x2,rfl⟩;have aZ:Gr C (C.ext x2):=gd;have vc:=VC.o.gr aZ;obtain⟨u0,u1⟩:=vc.c2;have zu:=blk u0;have V:=Kz (cB.o.trans aZ);clear vc aZ
   by_cases hp:(I,J)∈Q
   ·rw[bQ hp]
    have HP:=Kz hp;clear hp;go_wp2_with fail;refine(qc L (I,J) _ (HN.o.gr (tg V)) (ay.o _)).mono ?_;rintro e w' ⟨rfl,x3,rfl⟩
    by_cases hm:(I,J)∈L
    ·rw[bQ hm]
     have HM:=Kz hm;clear hm;go_wp2_with fail;go_ret;exact⟨aa (by rw[bV (show¬qd (g0,g1) (Y,Z,U,r3,D,r5) from fun h=>q8.o (by rw[←X.o,←K.o];exact HM.o) h.2)];rfl),aj.o.trans (tg V)⟩
    ·rw[bV hm]
     have HM:=Kz hm;clear hm;have bg:Gr (C.ext x2) ((C.ext x2).ext x3):=gd;have vc:=(VC.o.gr (gd:Gr C (C.ext x2))).gr bg;have bq:=Kz (V.o.trans bg);obtain⟨W4,cK⟩:=nm ((C.ext x2).ext x3);rw[←cK] at vc bq ⊢;replace u0:=vc.c 0;replace u1:=vc.c 1;replace zu:=blk u0;clear vc bg cK
     go_wp2_with (first|(at_builtin;refine bP (α:=ag) (w0:=B) ((oL.o.trans bq.o).trans gd) rfl _ _ 254 rfl 181 i0 _ _ Tryz.underlying254 HZ.o.1 HZ.o.2.1 HZ.o.2.2.1 HZ.o.2.2.2 rfl _ fps _ (by rfl) (bX.o.gr (tg bq)) _ [[]] [(I,J)] (by rfl) (eT.one (by simp) (ay.o _)) (fun b _=>by simp) (by rw[←K.o];unfold maxLen;simp;omega) (by rw[←K.o];simp;omega) ?_;intro v3 w3 h1 h2 h3 h4;replace h1:=Kz h1;replace h4:=Kz h4;clear h2 h3))
     refine⟨⟨k+1,fps++[[]],by omega,Kz (by rw[List.flatten_append,HF.o];rfl),Kz (o9.o (by rw[←X.o];exact HP.o)),Kz (qb.o (by rw[←X.o,←K.o];exact HM.o)),h4.o,?_,by go_num⟩,by simp[intOf];omega⟩;rw[sO.o,K.o];exact h1.o
   ·rw[bV hp]
    have HP:=Kz hp;clear hp;go_wp2_with fail;go_ret;exact⟨aa (by rw[bV (show¬qd (g0,g1) (Y,Z,U,r3,D,r5) from fun h=>HP.o (by have h1:=h.1 _ dB.o;rw[←X.o,←ah.o] at h1;exact h1))];rfl),aj.o.trans (tg V)⟩
  ·obtain rfl:k=D.length:=by omega
   rw[take_length] at HA HD;go_wp2_with fail;go_ret;exact⟨aa (by rw[bQ (show qd (g0,g1) (Y,Z,U,r3,D,r5) from⟨fun q hq=>by rw[←ah.o];exact HA.o q hq,HD.o⟩)];rfl),aj.o⟩
def Jm(g:af d):Prop:=(∀s∈g.1,Dv s)∧kM Prod.fst g.1∧(∀r∈g.2,j3 r)∧kM Prod.fst g.2
def Ju(g:af d)(w:World)(e:Ending)(w':World):Prop:=∃i:Int,e=.returned (.int .i64 i)∧-1≤i∧i≤2097152∧(i<0↔Jm g)∧Gr w w'
theorem C8(fg:List Nat)(cg:Array Value)(g:af d)(w:World)(hg:Rd.rd fg w cg.toList g)(hl:aP g≤1048576):Calls Tryz.prog 154 #[.agg cg] w (Ju g w):=by
 obtain⟨i0,hi⟩:=info_parts Tryz.Ac;have X:=Kz hi;clear hi;obtain⟨g0,g1,ag0,kg0,uf,ag1,kg1,uo,rfl,rfl,-,bH,kr,ku,bL,ky,lq⟩:=yt hg;have cB:=bH.op3;have cK:=bL.op3;clear hg;have bR:wtL bM g0+wtL bF g1≤1048576:=hl;have uq:g0.length≤1048576:=by have:=bT bM g0;omega
 have U:g1.length≤1048576:=by have:=bT bF g1;omega
 have HL:=Kz bR;clear hl bR;go_in;go_wp2_with fail;generalize hB:(w.alloc (.cells #[.slice ag0 g0.length kg0,.slice ag1 g1.length kg1] 39))=B;have gB:Gr w B:=gb hB;obtain⟨cO,dB⟩:=kb2 hB (w.heap.size) (.slice ag0 g0.length kg0) (.slice ag1 g1.length kg1);have sB:B.heap.size=w.heap.size+1:=szB hB;clear hB
 go_loopw [4,3] (fun s4 s3 wr=>∃(k:Nat) (fps:List (List Nat)),k≤g0.length∧Ky (fps.flatten=[])∧Ky (∀s∈g0.take k,Dv s)∧Ky (kM Prod.fst (g0.take k))∧Gr B wr∧bE (α:=ByteArray) B 9 wr s3 fps ((g0.take k).map Prod.fst)∧s4=.int .i64 k) (fun s4 _ _=>g0.length - (intOf s4).toNat)
 case atStart=>exact⟨0,[],by omega,Kz rfl,Kz (by simp),Kz (by intro i h;simp at h),gd,bE.kF (α:=ByteArray) (w0:=B) 9 (Nat.le_refl _) (by omega),rfl⟩
 case round=>
  skip;obtain⟨k,fps,hk,HF,HA,HD,J,hown,rfl⟩:=hrel
  rename World=>W1
  have Y:=Kz J;have HO:=Kz hown;obtain⟨L,hL⟩:=nm ((g0.take k).map Prod.fst);have Z:L.length=k:=by rw[hL];simp;omega
  have dS:L.length≤1048576:=by omega
  have bX:=Kz Z;clear Z;obtain⟨ra,rc,K⟩:=hown.form;rw[←hL] at K;subst K;have q:=Kz hL;have y:=cO _ J;have zy:=blk y;have V:=gB.trans J;have O:=Kz V;clear J hown hL
  by_cases D:k<g0.length
  ·have ai:=dI bM g0 D
   have aj:=Kz (show bM g0[k]≤1048576 by have:=HL.o;omega);have ak:=Kz (fun h=>dD D HA.o h);have au:=Kz (lK D HD.o);have ax:=Kz (oC (f:=Prod.fst) (xs:=g0) D);have ae:=Kz (getElem_mem D);obtain⟨dV,U,-⟩:=HO.o.fresh (by rw[←q.o];unfold bn;omega) (by rw[HF.o];exact aY.nil _);rw[←q.o] at U;have HN:=Kz U;clear ai U;obtain⟨b,off,rfl,fe⟩:=cB k D;obtain⟨q0,q1,uz,u6,ve,fu,I,ay,aZ,gD,oH,oL,gF,gT,gV⟩:=K9 bH D V;have k0:(0:Int)≤(k:Int):=by omega
   have k1:(k:Int)<(g0.length:Int):=by omega
   have iw:=zI1 k (by omega);have HQ:=Kz aZ
   have bg:=Kz (show(g0.take (k+1)).map Prod.fst=L++[q0] by
    rw[List.take_succ_eq_append_getElem D,map_append,q.o,←I.o];rfl)
   clear V;go_wp2_with fail;refine(CJ _ _ (q0,q1) _ (Rd.gr ay.o O.o) (by rw[I.o];exact aj.o)).mono ?_;rintro e w' ⟨rfl,x1,rfl⟩
   by_cases T:Dv (q0,q1)
   ·rw[bQ T]
    have HP:=Kz T;clear T;go_wp2_with fail;refine(mi L q0 _ (HN.o.gr gd)).mono ?_;rintro e w' ⟨rfl,x2,rfl⟩
    by_cases hm:q0∈L
    ·rw[bQ hm]
     have HM:=Kz hm;clear hm;go_wp2_with fail;go_ret;exact⟨k,rfl,by omega,by omega,⟨fun h=>by omega,fun h=>absurd h.2.1 (ax.o (by rw[←I.o,←q.o];exact HM.o))⟩,O.o.trans gd⟩
    ·rw[bV hm]
     have HM:=Kz hm;clear hm;have bq:=Kz (Y.o.trans (show Gr W1 ((W1.ext x1).ext x2) from gd));have bB:=Kz (HO.o.gr (show Gr W1 ((W1.ext x1).ext x2) from gd))
     go_wp2_with (first|(at_builtin;refine bP (α:=ByteArray) (w0:=B) (tg bq) rfl _ _ 108 rfl 9 i0 _ _ Tryz.underlying108 X.o.1 X.o.2.1 X.o.2.2.1 X.o.2.2.2 rfl _ fps _ (by rfl) (bB.o.gr gd) _ [[]] [q0] (by rfl) (eT.one (by simp) ⟨rfl,rfl,HQ.o⟩) (fun b _=>by simp) (by rw[←q.o];unfold maxLen;simp;omega) (by rw[←q.o];simp;omega) ?_;intro v3 w3 h1 h2 h3 h4;replace h1:=Kz h1;replace h4:=Kz h4;clear h2 h3))
     refine⟨⟨k+1,fps++[[]],by omega,Kz (by rw[List.flatten_append,HF.o];rfl),Kz (ak.o (by rw[←I.o];exact HP.o)),Kz (au.o (by rw[←I.o,←q.o];exact HM.o)),h4.o,?_,by go_num⟩,by simp[intOf];omega⟩;rw[bg.o,q.o];exact h1.o
   ·rw[bV T]
    have HP:=Kz T;clear T;go_wp2_with fail;go_ret;exact⟨k,rfl,by omega,by omega,⟨fun h=>by omega,fun h=>absurd (h.1 _ ae.o) (by rw[←I.o];exact HP.o)⟩,O.o.trans gd⟩
  ·obtain rfl:k=g0.length:=by omega
   rw[take_length] at HA HD;have gX:=HA;have ik:=HD;have ah:=Kz Y.o;go_wp2_with fail
   go_loopw [5,3] (fun s4 s3 wr=>∃(k:Nat) (fps:List (List Nat)),k≤g1.length∧Ky (fps.flatten=[])∧Ky (∀s∈g1.take k,j3 s)∧Ky (kM Prod.fst (g1.take k))∧Gr B wr∧bE (α:=ByteArray) B 9 wr s3 fps ((g1.take k).map Prod.fst)∧s4=.int .i64 k) (fun s4 _ _=>g1.length - (intOf s4).toNat)
   case atStart=>exact⟨0,[],by omega,Kz rfl,Kz (by simp),Kz (by intro i h;simp at h),ah.o.trans gd,bE.kF (α:=ByteArray) (w0:=B) 9 ah.o.size (by omega),rfl⟩
   case round=>
    clear ah y zy Y HO V O q bX;obtain⟨k,fps,hk,HF,HA,HD,J,hown,rfl⟩:=hrel
    rename World=>W2
    have Y:=Kz J;have HO:=Kz hown;obtain⟨L,hL⟩:=nm ((g1.take k).map Prod.fst);have Z:L.length=k:=by rw[hL];simp;omega
    have dS:L.length≤1048576:=by omega
    have bX:=Kz Z;clear Z;obtain⟨ra,rc,K⟩:=hown.form;rw[←hL] at K;subst K;have q:=Kz hL;have y:=dB _ J;have zy:=blk y;have V:=gB.trans J;have O:=Kz V;clear J hown hL
    by_cases D:k<g1.length
    ·have ai:=dI bF g1 D
     have aj:=Kz (show bF g1[k]≤1048576 by have:=HL.o;omega);have ak:=Kz (fun h=>dD D HA.o h);have au:=Kz (lK D HD.o);have ax:=Kz (oC (f:=Prod.fst) (xs:=g1) D);have ae:=Kz (getElem_mem D);obtain⟨dV,U,-⟩:=HO.o.fresh (by rw[←q.o];unfold bn;omega) (by rw[HF.o];exact aY.nil _);rw[←q.o] at U;have HN:=Kz U;clear ai U;obtain⟨b,off,rfl,fe⟩:=cK k D;obtain⟨q0,q1,q2,q3,q4,q5,vB,vD,vF,vG,vL,vO,vR,vX,wF,fu,I,ay,aZ,gD,wL,o5,o9,w9,qb,q8,xc,q9,sO,gF,gT,x9,yc,yu,y5,gV⟩:=Lf bL D V;have k0:(0:Int)≤(k:Int):=by omega
     have k1:(k:Int)<(g1.length:Int):=by omega
     have iw:=zI1 k (by omega);have HQ:=Kz aZ
     have bg:=Kz (show(g1.take (k+1)).map Prod.fst=L++[q0] by
      rw[List.take_succ_eq_append_getElem D,map_append,q.o,←I.o];rfl)
     clear V;go_wp2_with fail;refine(Az _ _ (q0,q1,q2,q3,q4,q5) _ (Rd.gr ay.o O.o) (by rw[I.o];exact aj.o)).mono ?_;rintro e w' ⟨rfl,x1,rfl⟩
     by_cases T:j3 (q0,q1,q2,q3,q4,q5)
     ·rw[bQ T]
      have HP:=Kz T;clear T;go_wp2_with fail;refine(mi L q0 _ (HN.o.gr gd)).mono ?_;rintro e w' ⟨rfl,x2,rfl⟩
      by_cases hm:q0∈L
      ·rw[bQ hm]
       have HM:=Kz hm;clear hm;go_wp2_with fail;go_ret;exact⟨k,rfl,by omega,by omega,⟨fun h=>by omega,fun h=>absurd h.2.2.2 (ax.o (by rw[←I.o,←q.o];exact HM.o))⟩,O.o.trans gd⟩
      ·rw[bV hm]
       have HM:=Kz hm;clear hm;have bq:=Kz (Y.o.trans (show Gr W2 ((W2.ext x1).ext x2) from gd));have bB:=Kz (HO.o.gr (show Gr W2 ((W2.ext x1).ext x2) from gd))
       go_wp2_with (first|(at_builtin;refine bP (α:=ByteArray) (w0:=B) (tg bq) rfl _ _ 108 rfl 9 i0 _ _ Tryz.underlying108 X.o.1 X.o.2.1 X.o.2.2.1 X.o.2.2.2 rfl _ fps _ (by rfl) (bB.o.gr gd) _ [[]] [q0] (by rfl) (eT.one (by simp) ⟨rfl,rfl,HQ.o⟩) (fun b _=>by simp) (by rw[←q.o];unfold maxLen;simp;omega) (by rw[←q.o];simp;omega) ?_;intro v3 w3 h1 h2 h3 h4;replace h1:=Kz h1;replace h4:=Kz h4;clear h2 h3))
       refine⟨⟨k+1,fps++[[]],by omega,Kz (by rw[List.flatten_append,HF.o];rfl),Kz (ak.o (by rw[←I.o];exact HP.o)),Kz (au.o (by rw[←I.o,←q.o];exact HM.o)),h4.o,?_,by go_num⟩,by simp[intOf];omega⟩;rw[bg.o,q.o];exact h1.o
     ·rw[bV T]
      have HP:=Kz T;clear T;go_wp2_with fail;go_ret;exact⟨k,rfl,by omega,by omega,⟨fun h=>by omega,fun h=>absurd (h.2.2.1 _ ae.o) (by rw[←I.o];exact HP.o)⟩,O.o.trans gd⟩
    ·obtain rfl:k=g1.length:=by omega
     rw[take_length] at HA HD;go_wp2_with fail;go_ret;exact⟨-1,rfl,by omega,by omega,⟨fun _=>⟨gX.o,ik.o,HA.o,HD.o⟩,fun _=>by omega⟩,O.o⟩
end Go.Proofs.YtleafadpfeibfaaGreat
