/- Contracts and laws towards ReadsOf, part 10 of 54. No condition. -/
import Derived.Test.YtleafadpfeibfaaGreatRx07
set_option maxHeartbeats 32000000
set_option maxRecDepth 10000
set_option linter.unusedVariables false
set_option linter.unusedSimpArgs false
namespace Go.Proofs.YtleafadpfeibfaaGreat
open Go.RowKit
open _root_.List (take_length)
variable{d:Nat}
variable{w:World}
abbrev aD(d:Nat):=ByteArray×ByteArray×(aA d)×(aA d)
def aI(x:(aD d)):Nat:=x.1.size+x.2.1.size+aS x.2.2.1+aS x.2.2.2
instance decContribution:DecidableEq (aD d):=@instDecidableEqProd _ _ _ (@instDecidableEqProd _ _ _ (@instDecidableEqProd _ _ _ (inferInstance)))
theorem bS{fp:List Nat}{cs:Array Value}(q0:ByteArray)(q1:ByteArray)(q:Int)(B:Int)(D:Int)(I:Int)(J:ByteArray)(K:ByteArray)(Z:List (GE d))(O:Int)(T:Int)(U:Int)(V:Int)(X:ByteArray)(Y:ByteArray)(ae:List (GE d))(h:Rd.rd (α:=(aD d)) fp w cs.toList (q0,q1,(q,B,D,I,J,K,Z),(O,T,U,V,X,Y,ae))):
  ∃ah ai aj ak,cs=#[.string q0,.string q1,.int .i64 q,.int .i64 B,.int .i64 D,.int .i64 I,.string J,.string K,ah,.int .i64 O,.int .i64 T,.int .i64 U,.int .i64 V,.string X,.string Y,aj]∧fp=([]++([]++(([]++([]++([]++([]++([]++([]++ai))))))++([]++([]++([]++([]++([]++([]++ak)))))))))∧q0.size≤maxLen∧q1.size≤maxLen∧(Lit.int .i64 q).wf=true∧(Lit.int .i64 B).wf=true∧(Lit.int .i64 D).wf=true∧(Lit.int .i64 I).wf=true∧J.size≤maxLen∧K.size≤maxLen∧SlR ai w ah Z∧(Lit.int .i64 O).wf=true∧(Lit.int .i64 T).wf=true∧(Lit.int .i64 U).wf=true∧(Lit.int .i64 V).wf=true∧X.size≤maxLen∧Y.size≤maxLen∧SlR ak w aj ae:=by
 generalize au:cs.toList=l at h;obtain⟨_,_,_,_,rfl,rfl,⟨rfl,rfl,gV⟩,⟨_,_,_,_,rfl,rfl,⟨rfl,rfl,gX⟩,⟨aZ,bg,oH,oL,rfl,rfl,ik,iw⟩⟩⟩:=h;obtain⟨ax,ky,bq,bB,bH,bL,bR,bX,cB,cK,cO⟩:=aF (cs:=aZ.toArray) q B D I J K Z (by rw[List.toList_toArray];exact ik);have kr:aZ=[.int .i64 q,.int .i64 B,.int .i64 D,.int .i64 I,.string J,.string K,ax]:=by have:=congrArg Array.toList bq;simpa using this
 rw[kr] at au;obtain⟨ay,lq,dB,dS,dV,fe,fu,gB,gD,gF,gT⟩:=aF (cs:=bg.toArray) O T U V X Y ae (by rw[List.toList_toArray];exact iw);have ku:bg=[.int .i64 O,.int .i64 T,.int .i64 U,.int .i64 V,.string X,.string Y,ay]:=by have:=congrArg Array.toList dB;simpa using this
 rw[ku] at au;exact⟨_,_,_,_,Array.toList_inj.1 (by simpa using au),(by rw[bB,dS]),gV,gX,bH,bL,bR,bX,cB,cK,cO,dV,fe,fu,gB,gD,gF,gT⟩
theorem Lu{fp:List Nat}{c:Array Value}{x:(aD d)}(h:Rd.rd fp w c.toList x):
 ∃q0 q1 J K O T U V q X Y Z ae ah ai B aj D au ak I ax,(q0,q1,(J,K,O,T,U,V,q),(X,Y,Z,ae,ah,ai,B))=x∧c=#[.string q0,.string q1,.int .i64 J,.int .i64 K,.int .i64 O,.int .i64 T,.string U,.string V,.slice aj q.length D,.int .i64 X,.int .i64 Y,.int .i64 Z,.int .i64 ae,.string ah,.string ai,.slice ak B.length I]∧True∧q0.size≤maxLen∧q1.size≤maxLen∧(Lit.int .i64 J).wf=true∧(Lit.int .i64 K).wf=true∧(Lit.int .i64 O).wf=true∧(Lit.int .i64 T).wf=true∧U.size≤maxLen∧V.size≤maxLen∧SlR au w (.slice aj q.length D) q∧q.length≤D∧q.length≤140737488351232∧(Lit.int .i64 X).wf=true∧(Lit.int .i64 Y).wf=true∧(Lit.int .i64 Z).wf=true∧(Lit.int .i64 ae).wf=true∧ah.size≤maxLen∧ai.size≤maxLen∧SlR ax w (.slice ak B.length I) B∧B.length≤I∧B.length≤140737488351232:=by
 obtain⟨q0,q1,⟨J,K,O,T,U,V,q⟩,⟨X,Y,Z,ae,ah,ai,B⟩⟩:=x;obtain⟨gT,au,gV,ax,rfl,hf,gD,gF,bg,bq,bB,bH,bL,bR,ay,bX,cB,cK,cO,dB,dS,aZ⟩:=bS q0 q1 J K O T U V q X Y Z ae ah ai B h;obtain⟨aj,D,rfl,dV,fe,-⟩:=ay.open;obtain⟨ak,I,rfl,fu,gB,-⟩:=aZ.open;exact⟨_,_,_,_,_,_,_,_,_,_,_,_,_,_,_,_,_,_,_,_,_,_,rfl,rfl,⟨⟩,gD,gF,bg,bq,bB,bH,bL,bR,ay,dV,fe,bX,cB,cK,cO,dB,dS,aZ,fu,gB⟩
theorem KW{f:List Nat}{u:World}{b o n m k:Nat}{xs:List ((aD d))}(h:SlR f w (.slice (some ⟨b,o,none⟩) n m) xs)(hl:k<xs.length)(g:Gr w u):
 ∃q0 q1 J K O T U V q X Y Z ae ah ai B aj D au ak I ax fe,Ky ((q0,q1,(J,K,O,T,U,V,q),(X,Y,Z,ae,ah,ai,B))=xs[k])∧Ky (Rd.rd (α:=(aD d)) fe w [.string q0,.string q1,.int .i64 J,.int .i64 K,.int .i64 O,.int .i64 T,.string U,.string V,.slice aj q.length D,.int .i64 X,.int .i64 Y,.int .i64 Z,.int .i64 ae,.string ah,.string ai,.slice ak B.length I] (q0,q1,(J,K,O,T,U,V,q),(X,Y,Z,ae,ah,ai,B)))∧q0.size≤maxLen∧q1.size≤maxLen∧(Lit.int .i64 J).wf=true∧(Lit.int .i64 K).wf=true∧(Lit.int .i64 O).wf=true∧(Lit.int .i64 T).wf=true∧U.size≤maxLen∧V.size≤maxLen∧SlR au w (.slice aj q.length D) q∧q.length≤D∧q.length≤140737488351232∧(Lit.int .i64 X).wf=true∧(Lit.int .i64 Y).wf=true∧(Lit.int .i64 Z).wf=true∧(Lit.int .i64 ae).wf=true∧ah.size≤maxLen∧ai.size≤maxLen∧SlR ax w (.slice ak B.length I) B∧B.length≤I∧B.length≤140737488351232∧u.cell? ⟨b,o+k*16,none⟩=some (.string q0)∧u.cell? ⟨b,o+k*16+1,none⟩=some (.string q1)∧u.cell? ⟨b,o+k*16+2,none⟩=some (.int .i64 J)∧u.cell? ⟨b,o+k*16+3,none⟩=some (.int .i64 K)∧u.cell? ⟨b,o+k*16+4,none⟩=some (.int .i64 O)∧u.cell? ⟨b,o+k*16+5,none⟩=some (.int .i64 T)∧u.cell? ⟨b,o+k*16+6,none⟩=some (.string U)∧u.cell? ⟨b,o+k*16+7,none⟩=some (.string V)∧u.cell? ⟨b,o+k*16+8,none⟩=some (.slice aj q.length D)∧u.cell? ⟨b,o+k*16+9,none⟩=some (.int .i64 X)∧u.cell? ⟨b,o+k*16+10,none⟩=some (.int .i64 Y)∧u.cell? ⟨b,o+k*16+11,none⟩=some (.int .i64 Z)∧u.cell? ⟨b,o+k*16+12,none⟩=some (.int .i64 ae)∧u.cell? ⟨b,o+k*16+13,none⟩=some (.string ah)∧u.cell? ⟨b,o+k*16+14,none⟩=some (.string ai)∧u.cell? ⟨b,o+k*16+15,none⟩=some (.slice ak B.length I)∧b<u.heap.size:=by
 obtain⟨_,fe,hc,hr⟩:=h.el hl;obtain⟨q0,q1,J,K,O,T,U,V,q,X,Y,Z,ae,ah,ai,B,aj,D,au,ak,I,ax,hy,rfl,-,gF,gT,ay,aZ,bg,bq,bB,bH,bL,bR,bX,cB,cK,cO,dB,dS,dV,fu,gB,gD⟩:=Lu hr;have z:=g.keep (hc 0 _ rfl);exact⟨_,_,_,_,_,_,_,_,_,_,_,_,_,_,_,_,_,_,_,_,_,_,_,Kz hy,Lt hy hr,gF,gT,ay,aZ,bg,bq,bB,bH,bL,bR,bX,cB,cK,cO,dB,dS,dV,fu,gB,gD,z,g.keep (hc 1 _ rfl),g.keep (hc 2 _ rfl),g.keep (hc 3 _ rfl),g.keep (hc 4 _ rfl),g.keep (hc 5 _ rfl),g.keep (hc 6 _ rfl),g.keep (hc 7 _ rfl),g.keep (hc 8 _ rfl),g.keep (hc 9 _ rfl),g.keep (hc 10 _ rfl),g.keep (hc 11 _ rfl),g.keep (hc 12 _ rfl),g.keep (hc 13 _ rfl),g.keep (hc 14 _ rfl),g.keep (hc 15 _ rfl),blk z⟩
theorem mD(q0:ByteArray)(q1:ByteArray)(h:Int)(q:Int)(B:Int)(D:Int)(I:ByteArray)(J:ByteArray)(ai:List (GE d))(K:Int)(O:Int)(T:Int)(U:Int)(V:ByteArray)(X:ByteArray)(aj:List (GE d)){Y:Value}{Z:List Nat}{ae:Value}{ah:List Nat}(cO:q0.size≤maxLen)(dB:q1.size≤maxLen)(ak:(Lit.int .i64 h).wf=true)(au:(Lit.int .i64 q).wf=true)(ax:(Lit.int .i64 B).wf=true)(ay:(Lit.int .i64 D).wf=true)(aZ:I.size≤maxLen)(bg:J.size≤maxLen)(bq:SlR Z w Y ai)(bB:(Lit.int .i64 K).wf=true)(bH:(Lit.int .i64 O).wf=true)(bL:(Lit.int .i64 T).wf=true)(bR:(Lit.int .i64 U).wf=true)(bX:V.size≤maxLen)(cB:X.size≤maxLen)(cK:SlR ah w ae aj):
  Rd.rd (α:=(aD d)) (([]++([]++(([]++([]++([]++([]++([]++([]++Z))))))++([]++([]++([]++([]++([]++([]++ah)))))))))) w [.string q0,.string q1,.int .i64 h,.int .i64 q,.int .i64 B,.int .i64 D,.string I,.string J,Y,.int .i64 K,.int .i64 O,.int .i64 T,.int .i64 U,.string V,.string X,ae] (q0,q1,(h,q,B,D,I,J,ai),(K,O,T,U,V,X,aj)):=⟨_,_,_,_,rfl,rfl,⟨rfl,rfl,cO⟩,⟨_,_,_,_,rfl,rfl,⟨rfl,rfl,dB⟩,⟨_,_,_,_,rfl,rfl,⟨_,_,_,_,rfl,rfl,⟨rfl,rfl,ak⟩,⟨_,_,_,_,rfl,rfl,⟨rfl,rfl,au⟩,⟨_,_,_,_,rfl,rfl,⟨rfl,rfl,ax⟩,⟨_,_,_,_,rfl,rfl,⟨rfl,rfl,ay⟩,⟨_,_,_,_,rfl,rfl,⟨rfl,rfl,aZ⟩,⟨_,_,_,_,rfl,rfl,⟨rfl,rfl,bg⟩,⟨_,rfl,bq⟩⟩⟩⟩⟩⟩⟩,⟨_,_,_,_,rfl,rfl,⟨rfl,rfl,bB⟩,⟨_,_,_,_,rfl,rfl,⟨rfl,rfl,bH⟩,⟨_,_,_,_,rfl,rfl,⟨rfl,rfl,bL⟩,⟨_,_,_,_,rfl,rfl,⟨rfl,rfl,bR⟩,⟨_,_,_,_,rfl,rfl,⟨rfl,rfl,bX⟩,⟨_,_,_,_,rfl,rfl,⟨rfl,rfl,cB⟩,⟨_,rfl,cK⟩⟩⟩⟩⟩⟩⟩⟩⟩⟩
theorem qB(fp:List Nat)(cs:Array Value)(x:(aD d))(left:Int)(w:World)(hx:Rd.rd fp w cs.toList x)(h0:0≤left)(h1:left≤1048576):
  Qz 121 #[.agg cs,.int .i64 left] w (.int .i64 (less left (aI x))):=by
 obtain⟨q0,q1,⟨h,q,B,D,I,J,K⟩,⟨O,T,U,V,X,Y,Z⟩⟩:=x;obtain⟨fu,gB,gD,gF,rfl,-,dV,fe,bB,bH,bL,bR,ai,aj,ak,bX,cB,cK,cO,au,ax,ay⟩:=bS q0 q1 h q B D I J K O T U V X Y Z hx;have aZ:=(bJ h q B D I J K bB bH bL bR ai aj ak:Rd.rd (α:=(aA d)) _ w _ _);obtain⟨y2,ae⟩:∃y:(aA d),y=(h,q,B,D,I,J,K):=⟨_,rfl⟩;rw[←ae] at aZ;have dB:=Kz ae;clear ae;have bg:=(bJ O T U V X Y Z bX cB cK cO au ax ay:Rd.rd (α:=(aA d)) _ w _ _);obtain⟨y3,ah⟩:∃y:(aA d),y=(O,T,U,V,X,Y,Z):=⟨_,rfl⟩;rw[←ah] at bg;have dS:=Kz ah;clear ah;unfold maxLen at dV;unfold maxLen at fe;unfold maxLen at ai;unfold maxLen at aj;unfold maxLen at au;unfold maxLen at ax;obtain⟨gT,gV,rfl,gX,ik,-⟩:=ak.open;obtain⟨iw,kr,rfl,ku,ky,-⟩:=ay.open;have bq:aI (q0,q1,(h,q,B,D,I,J,K),(O,T,U,V,X,Y,Z))=(q0.size)+(q1.size)+(aS y2)+(aS y3):=by rw[dB.o];rw[dS.o];rfl
 have HW:=Kz bq;clear bq hx;delta Qz;go_in;go_wp2_with fail
 ·go_ret
  refine⟨aC ?_,gd⟩;have:=aH left (aI (q0,q1,(h,q,B,D,I,J,K),(O,T,U,V,X,Y,Z)));have:=HW.o;omega
 ·go_ret
  refine⟨aC ?_,gd⟩;have:=aH left (aI (q0,q1,(h,q,B,D,I,J,K),(O,T,U,V,X,Y,Z)));have:=HW.o;omega
 ·skip
  refine(qx _ _ y2 _ _ (Rd.gr aZ gd) (by omega) (by omega)).mono ?_;rintro e w2 ⟨rfl,x2,rfl⟩;have lq:=fD (left - ↑q0.size - ↑q1.size) (aS y2) (by omega);go_wp2_with fail
  ·go_ret
   refine⟨aC ?_,gd⟩;have:=aH left (aI (q0,q1,(h,q,B,D,I,J,K),(O,T,U,V,X,Y,Z)));have:=HW.o;have:=aH (left - ↑q0.size - ↑q1.size) (aS y2);omega
  ·skip
   refine(qx _ _ y3 _ _ (Rd.gr bg gd) (by have:=aH (left - ↑q0.size - ↑q1.size) (aS y2);omega) (by have:=aH (left - ↑q0.size - ↑q1.size) (aS y2);omega)).mono ?_;rintro e w3 ⟨rfl,x3,rfl⟩;have oH:=fD (less (left - ↑q0.size - ↑q1.size) (aS y2)) (aS y3) (by have:=aH (left - ↑q0.size - ↑q1.size) (aS y2);omega);go_wp2_with fail
   ·go_ret
    refine⟨aC ?_,gd⟩;have:=aH left (aI (q0,q1,(h,q,B,D,I,J,K),(O,T,U,V,X,Y,Z)));have:=HW.o;have:=aH (left - ↑q0.size - ↑q1.size) (aS y2);have:=aH (less (left - ↑q0.size - ↑q1.size) (aS y2)) (aS y3);omega
   ·skip
    go_ret;refine⟨aC ?_,gd⟩;have:=aH left (aI (q0,q1,(h,q,B,D,I,J,K),(O,T,U,V,X,Y,Z)));have:=HW.o;have:=aH (left - ↑q0.size - ↑q1.size) (aS y2);have:=aH (less (left - ↑q0.size - ↑q1.size) (aS y2)) (aS y3);omega
theorem tu(q0:ByteArray)(q1:ByteArray)(h:Int)(q:Int)(B:Int)(D:Int)(I:ByteArray)(J:ByteArray)(K:List (GE d))(O:Int)(T:Int)(U:Int)(V:Int)(X:ByteArray)(Y:ByteArray)(Z:List (GE d))(p0:ByteArray)(p1:ByteArray)(ae:Int)(ah:Int)(ai:Int)(aj:Int)(ak:ByteArray)(au:ByteArray)(ax:List (GE d))(ay:Int)(aZ:Int)(bg:Int)(bq:Int)(bB:ByteArray)(bH:ByteArray)(bL:List (GE d))(e0:q0=p0)(e1:q1=p1)(e2:(h,q,B,D,I,J,K)=(ae,ah,ai,aj,ak,au,ax))(e3:(O,T,U,V,X,Y,Z)=(ay,aZ,bg,bq,bB,bH,bL)):((q0,q1,(h,q,B,D,I,J,K),(O,T,U,V,X,Y,Z)):(aD d))=(p0,p1,(ae,ah,ai,aj,ak,au,ax),(ay,aZ,bg,bq,bB,bH,bL)):=by
 exact Prod.ext_iff.2 ⟨e0,Prod.ext_iff.2 ⟨e1,Prod.ext_iff.2 ⟨e2,e3⟩⟩⟩
theorem qK(fp fq:List Nat)(cs ds:Array Value)(x y:(aD d))(w:World)(hx:Rd.rd fp w cs.toList x)(hy:Rd.rd fq w ds.toList y):
  Qz 151 #[.agg cs,.agg ds] w (.bool (decide (x=y))):=by
 obtain⟨q0,q1,⟨I,J,K,O,T,U,V⟩,⟨X,Y,Z,ae,ah,ai,aj⟩⟩:=x;obtain⟨p0,p1,⟨ak,au,ax,ay,aZ,bg,bq⟩,⟨bB,bH,bL,bR,bX,cB,cK⟩⟩:=y;obtain⟨vL,vO,vR,vX,rfl,-,zb,ze,ik,iw,kr,ku,ky,lq,cO,oH,oL,o5,o9,qb,q8,dB⟩:=bS q0 q1 I J K O T U V X Y Z ae ah ai aj hx;obtain⟨wF,wL,w9,xc,rfl,-,zf,zg,q9,sO,uf,uo,uq,uz,dS,u6,ve,vB,vD,vF,vG,dV⟩:=bS p0 p1 ak au ax ay aZ bg bq bB bH bL bR bX cB cK hy;have fe:=(bJ I J K O T U V ik iw kr ku ky lq cO:Rd.rd (α:=(aA d)) _ w _ _);obtain⟨y2,h⟩:∃y:(aA d),y=(I,J,K,O,T,U,V):=⟨_,rfl⟩;rw[←h] at fe;have fu:=Kz h;clear h;have gB:=(bJ X Y Z ae ah ai aj oH oL o5 o9 qb q8 dB:Rd.rd (α:=(aA d)) _ w _ _);obtain⟨y3,q⟩:∃y:(aA d),y=(X,Y,Z,ae,ah,ai,aj):=⟨_,rfl⟩;rw[←q] at gB;have gD:=Kz q;clear q;have gF:=(bJ ak au ax ay aZ bg bq q9 sO uf uo uq uz dS:Rd.rd (α:=(aA d)) _ w _ _);obtain⟨z2,B⟩:∃y:(aA d),y=(ak,au,ax,ay,aZ,bg,bq):=⟨_,rfl⟩;rw[←B] at gF;have gT:=Kz B;clear B;have gV:=(bJ bB bH bL bR bX cB cK u6 ve vB vD vF vG dV:Rd.rd (α:=(aA d)) _ w _ _);obtain⟨z3,D⟩:∃y:(aA d),y=(bB,bH,bL,bR,bX,cB,cK):=⟨_,rfl⟩;rw[←D] at gV;have gX:=Kz D;clear D;obtain⟨x9,yc,rfl,-,-,-⟩:=cO.open;obtain⟨yu,y5,rfl,-,-,-⟩:=dB.open;obtain⟨y7,y8,rfl,-,-,-⟩:=dS.open;obtain⟨y9,za,rfl,-,-,-⟩:=dV.open;clear hx hy;delta Qz;go_in;go_wp2_with fail
 ·have ht:(!q0.toList==p0.toList)=true:=by assumption
  go_ret;exact⟨aa (decide_eq_false fun e=>lg ht (congrArg (fun z:(aD d)=>z.1) e)).symm,gd⟩
 ·have ht:(!q1.toList==p1.toList)=true:=by assumption
  go_ret;exact⟨aa (decide_eq_false fun e=>lg ht (congrArg (fun z:(aD d)=>z.2.1) e)).symm,gd⟩
 ·skip
  have e0:=Kz (str_eq (show(!q0.toList==p0.toList)=false by assumption));have e1:=Kz (str_eq (show(!q1.toList==p1.toList)=false by assumption));refine(qI _ _ _ _ y2 z2 _ (Rd.gr fe gd) (Rd.gr gF gd)).mono ?_;rintro e w2 ⟨rfl,x2,rfl⟩;go_wp2_with fail
  ·have ht:(!decide (y2=z2))=true:=by assumption
   go_ret;exact⟨aa (decide_eq_false fun e=>iy ht (fu.o.trans ((congrArg (fun z:(aD d)=>z.2.2.1) e).trans gT.o.symm))).symm,gd⟩
  ·skip
   have e2:=Kz (iq (show(!decide (y2=z2))=false by assumption));refine(qI _ _ _ _ y3 z3 _ (Rd.gr gB gd) (Rd.gr gV gd)).mono ?_;rintro e w3 ⟨rfl,x3,rfl⟩;go_wp2_with fail
   ·have ht:(!decide (y3=z3))=true:=by assumption
    go_ret;exact⟨aa (decide_eq_false fun e=>iy ht (gD.o.trans ((congrArg (fun z:(aD d)=>z.2.2.2) e).trans gX.o.symm))).symm,gd⟩
   ·skip
    have e3:=Kz (iq (show(!decide (y3=z3))=false by assumption));go_ret;exact⟨aa (decide_eq_true (tu q0 q1 I J K O T U V X Y Z ae ah ai aj p0 p1 ak au ax ay aZ bg bq bB bH bL bR bX cB cK e0.o e1.o (fu.o.symm.trans (e2.o.trans gT.o)) (gD.o.symm.trans (e3.o.trans gX.o)))).symm,gd⟩
theorem qE(fp:List Nat)(cs:Array Value)(x:(aD d))(w:World)(hx:Rd.rd fp w cs.toList x)(hl:aI x≤1048576):
  Calls Tryz.prog 133 #[.agg cs] w fun e w'=>∃ds fq,e=.returned (.agg ds)∧Rd.rd fq w' ds.toList x∧aY w fq∧Gr w w':=by
 obtain⟨q0,q1,⟨h,q,B,D,I,J,K⟩,⟨O,T,U,V,X,Y,Z⟩⟩:=x;obtain⟨oH,oL,o5,o9,rfl,-,ky,lq,aj,ak,au,ax,ay,aZ,bg,bq,bB,bH,bL,bR,bX,cB⟩:=bS q0 q1 h q B D I J K O T U V X Y Z hx;have cK:=(bJ h q B D I J K aj ak au ax ay aZ bg:Rd.rd (α:=(aA d)) _ w _ _);obtain⟨y2,ae⟩:∃y:(aA d),y=(h,q,B,D,I,J,K):=⟨_,rfl⟩;rw[←ae] at cK;have cO:=Kz ae;clear ae;have dB:=(bJ O T U V X Y Z bq bB bH bL bR bX cB:Rd.rd (α:=(aA d)) _ w _ _);obtain⟨y3,ah⟩:∃y:(aA d),y=(O,T,U,V,X,Y,Z):=⟨_,rfl⟩;rw[←ah] at dB;have dS:=Kz ah;clear ah;obtain⟨qb,q8,rfl,-,-,-⟩:=bg.open;obtain⟨q9,sO,rfl,-,-,-⟩:=cB.open;have gX:aI (q0,q1,(h,q,B,D,I,J,K),(O,T,U,V,X,Y,Z))=(q0.size)+(q1.size)+(aS y2)+(aS y3):=by rw[cO.o];rw[dS.o];rfl
 have HW:=Kz gX;clear gX hx;go_in;go_wp2_with fail;refine(qF _ _ y2 _ (Rd.gr cK gd) (by have:=HW.o;omega)).mono ?_;rintro e w2 ⟨uq,g2,rfl,s2,dV,x2,rfl⟩;rw[cO.o] at s2;obtain⟨uf,kr,rfl,ik,-,-,-,-,-,-,ai⟩:=aF h q B D I J K s2;rw[ik] at dV;clear ik;obtain⟨gD,gF,rfl,-,-,-⟩:=ai.open;go_wp2_with fail;refine(qF _ _ y3 _ (Rd.gr dB gd) (by have:=HW.o;omega)).mono ?_;rintro e w3 ⟨uz,g3,rfl,s3,fe,x3,rfl⟩;rw[dS.o] at s3;obtain⟨uo,ku,rfl,iw,-,-,-,-,-,-,fu⟩:=aF O T U V X Y Z s3;rw[iw] at fe;clear iw;obtain⟨gT,gV,rfl,-,-,-⟩:=fu.open;go_wp2_with fail
 have gB:aY w (kr++ku):=by
  exact(aY.app (aY.of_le dV (by simp<;>omega)) (SlR.lt ai) fe (by simp<;>omega) (by simp<;>omega))
 exact bodyPost_ret (v:=.agg #[.string q0,.string q1,.int .i64 h,.int .i64 q,.int .i64 B,.int .i64 D,.string I,.string J,.slice gD K.length gF,.int .i64 O,.int .i64 T,.int .i64 U,.int .i64 V,.string X,.string Y,.slice gT Z.length gV]) (by simp[results,Tryz.results133,go_sem]) rfl
  ⟨_,_,rfl,mD q0 q1 h q B D I J K O T U V X Y Z ky lq aj ak au ax ay aZ (SlR.moved ai dV gd (by simp)) bq bB bH bL bR bX (SlR.moved fu fe gd (by simp)),gB,gd⟩
def df(xs:List (aD d)):Nat:=wtL aI xs
theorem pJ(fp:List Nat)(u:Value)(xs:List (aD d))(left:Int)(w:World)(hu:SlR fp w u xs)(Z:0≤left)(h1:left≤1048576):
  Qz 91 #[u,.int .i64 left] w (.int .i64 (less left (df xs))):=by
 obtain⟨a,ca,rfl,g1,g2,g3⟩:=hu.open
 by_cases J:left - xs.length<0
 ·have hle:less left (df xs)= -1:=by unfold less df wtL;rw[if_pos (by omega)]
  have HL:=Kz hle;clear hle;delta Qz;go_in
  go_wp2
  go_ret;exact⟨aC HL.o.symm,Gr.refl w⟩
 ·have I:less left xs.length=left - xs.length:=by unfold less;rw[if_neg J]
  have T:=Kz I;clear I;delta Qz;go_in
  go_wp2
  go_loopw [5,1] (fun K s1 wr=>∃(k:Nat) (m:Int),k≤xs.length∧0≤m∧m≤1048576∧Ky (m=less left (xs.length+((xs.take k).map aI).sum))∧Gr w wr∧K=.int .i64 k∧s1=.int .i64 m) (fun K _ _=>xs.length - (intOf K).toNat)
  case atStart=>exact⟨0,_,by omega,by omega,by omega,Kz (by simp[T.o]),Gr.refl w,rfl,rfl⟩
  case round=>
   obtain⟨k,m,hk,dS,dV,hm,⟨x,rfl⟩,rfl,rfl⟩:=hrel
   by_cases h:k<xs.length
   ·obtain⟨b,off,rfl,hb⟩:=g3 k h
    have q:=Kz (eZ aI xs k h);obtain⟨q0,q1,fe,fu,gB,gD,gF,gT,gV,gX,ik,iw,kr,ku,ky,lq,ae,ah,ai,aj,ak,au,oH,U,V,oL,o5,ax,ay,aZ,bg,bq,bB,bH,-,-,bL,bR,bX,cB,cK,cO,dB,-,-,z0,z1,z2,z3,z4,z5,z6,z7,z8,z9,o9,qb,z12,q8,q9,sO,-⟩:=KW hu h (Gr.refl _);have O:=Lb U V;have Y:=fD m (aI xs[k]) (by omega);clear g3
    go_wp2_with (go_at_call 121;refine(qB _ _ xs[k] _ _ (Rd.gr O ((Gr.refl w).ext _)) (by omega) (by omega)).mono ?_;rintro e w1 ⟨rfl,y,rfl⟩)
    ·have D:less m (aI xs[k])<0:=by assumption
     go_ret;refine⟨aC ?_,gd⟩;have e:=hm.o;subst e;rw[fE,Nat.add_assoc,←q.o] at D;exact(jV D (Nat.add_le_add_left (gJ aI xs (k+1)) _) Z).symm
    ·have D:0≤less m (aI xs[k]):=by assumption
     refine⟨⟨k+1,_,by omega,D,by omega,Kz ?_,gd,by go_num,rfl⟩,by simp[intOf];omega⟩;rw[q.o,hm.o,fE,Nat.add_assoc]
   ·have X:k=xs.length:=by omega
    subst X;have B:=hm.o;rw[take_length] at B;have HM:=Kz B;clear B hm
    go_wp2
    go_ret;exact⟨aC HM.o,gd⟩
theorem pU(fp fq:List Nat)(u v:Value)(xs q:List (aD d))(w:World)(hu:SlR fp w u xs)(hv:SlR fq w v q):
  Qz 114 #[u,v] w (.bool (decide (xs=q))):=by
 obtain⟨a,ca,rfl,h1,h2,U⟩:=hu.open;obtain⟨c,cc,rfl,g1,g2,g3⟩:=hv.open
 by_cases D:xs.length=q.length
 ·have J:=Kz D
  have V:((xs.length:Int)!=(q.length:Int))=false:=by simp[D]
  clear D;delta Qz;go_in
  go_wp2
  go_loopw [5] (fun K wr=>∃k:Nat,k≤xs.length∧xs.take k=q.take k∧Gr w wr∧K=.int .i64 k) (fun K _=>xs.length - (intOf K).toNat)
  case atStart=>exact⟨0,by omega,rfl,Gr.refl w,rfl⟩
  case round=>
   obtain⟨k,hk,ht,⟨x,rfl⟩,rfl⟩:=hrel
   by_cases I:k<xs.length
   ·have B:k<q.length:=by have:=J.o;omega
    obtain⟨b,off,rfl,hb⟩:=U k I;obtain⟨b',ai,rfl,ve⟩:=g3 k B;obtain⟨q0,q1,vB,vD,vF,vG,vL,vO,vR,vX,wF,wL,w9,xc,x9,yc,aj,ak,au,ax,ay,aZ,yu,X,Y,y5,y7,bg,bq,bB,bH,bL,bR,bX,-,-,cB,cK,cO,dB,dS,dV,fe,-,-,z0,z1,z2,z3,z4,z5,z6,z7,z8,z9,y8,y9,z12,za,zb,ze,-⟩:=KW hu I (Gr.refl _);have O:=Lb X Y;obtain⟨p0,p1,zf,zg,zl,zn,zo,zq,zu,zx,zy,zH,zL,zO,A7,BM,fu,gB,gD,gF,gT,gV,EB,Z,ae,E5,FX,gX,ik,iw,kr,ku,ky,lq,-,-,oH,oL,o5,o9,qb,q8,q9,-,-,F4,F5,F6,F8,Ha,He,HV,HY,HZ,H5,sO,uf,uo,uq,uz,u6,-⟩:=KW hv B (Gr.refl _);have T:=Lb Z ae;have hT:=Kz ht;clear U g3 ht;go_wp2_with fail;refine wg ?_
    repeat(go_big_quiet_step ((go_at_call 151;refine aG (qK _ _ _ _ xs[k] q[k] _ (Rd.gr O ?_) (Rd.gr T ?_))<;>exact((Gr.refl w).ext _).ext _)))
    refine wq fun nx=>?_
    go_wp2
    ·have ht:(!decide (xs[k]=q[k]))=true:=by assumption
     go_ret;have E:xs≠q:=fun e=>iy ht (by subst e;rfl)
     exact⟨aa (decide_eq_false E).symm,gd⟩
    ·have ht:(!decide (xs[k]=q[k]))=false:=by assumption
     have e2:=iq ht;refine⟨⟨k+1,by omega,?_,gd,by go_num⟩,by simp[intOf];omega⟩;rw[List.take_succ_eq_append_getElem I,List.take_succ_eq_append_getElem B,hT.o,e2]
   ·have ah:k=xs.length:=by omega
    subst ah
    have e:xs=q:=by
     have h:=ht;have h':=J.o;rw[take_length,h',take_length] at h;exact h
    have E:=Kz e;clear e ht
    go_wp2
    go_ret;exact⟨aa (decide_eq_true E.o).symm,gd⟩
 ·have V:((xs.length:Int)!=(q.length:Int))=true:=by simp;omega
  have e:xs≠q:=fun e=>D (by rw[e])
  have E:=Kz e;clear e D;delta Qz;go_in
  go_wp2
  go_ret;exact⟨aa (decide_eq_false E.o).symm,Gr.refl w⟩
theorem Tryz.sS:(Tryz.prog.info? 186).map (fun i=>(i.zero,i.size,i.bytes))=some (some (.agg #[.string ByteArray.empty,.string ByteArray.empty,.int .i64 0,.int .i64 0,.int .i64 0,.int .i64 0,.string ByteArray.empty,.string ByteArray.empty,.slice none 0 0,.int .i64 0,.int .i64 0,.int .i64 0,.int .i64 0,.string ByteArray.empty,.string ByteArray.empty,.slice none 0 0]),16,208):=by kernel_rfl
theorem pQ(fp:List Nat)(u:Value)(xs:List (aD d))(w:World)(hu:SlR fp w u xs)(hlen:df xs≤1048576):
  Calls Tryz.prog 102 #[u] w fun e w'=>∃v fq,e=.returned v∧SlR fq w' v xs∧aY w fq∧Gr w w':=by
 obtain⟨a,ca,rfl,h1,h2,h3⟩:=hu.open;have vX:xs.length≤1048576:=Nat.le_trans (bT aI xs) hlen;obtain⟨i0,hi,ay,aZ,bg⟩:=info_parts Tryz.sS;have au:=fun(W:World)=>run_make (P:=Tryz.prog) W 126 186 i0 (.agg #[.string ByteArray.empty,.string ByteArray.empty,.int .i64 0,.int .i64 0,.int .i64 0,.int .i64 0,.string ByteArray.empty,.string ByteArray.empty,.slice none 0 0,.int .i64 0,.int .i64 0,.int .i64 0,.int .i64 0,.string ByteArray.empty,.string ByteArray.empty,.slice none 0 0]) Tryz.underlying126 hi ay .i64 .i64 xs.length xs.length (by omega) (by omega) (by rw[bg];omega) (by omega)
 rw[aZ] at au;clear hi ay aZ bg;simp only[Int.toNat_natCast] at au;have ax:=size_madeCells (Value.agg #[.string ByteArray.empty,.string ByteArray.empty,.int .i64 0,.int .i64 0,.int .i64 0,.int .i64 0,.string ByteArray.empty,.string ByteArray.empty,.slice none 0 0,.int .i64 0,.int .i64 0,.int .i64 0,.int .i64 0,.string ByteArray.empty,.string ByteArray.empty,.slice none 0 0]).cells (xs.length*16);generalize madeCells (Value.agg #[.string ByteArray.empty,.string ByteArray.empty,.int .i64 0,.int .i64 0,.int .i64 0,.int .i64 0,.string ByteArray.empty,.string ByteArray.empty,.slice none 0 0,.int .i64 0,.int .i64 0,.int .i64 0,.int .i64 0,.string ByteArray.empty,.string ByteArray.empty,.slice none 0 0]).cells (xs.length*16)=C0 at au ax;have HS:=Kz ax;have cB:=Kz hlen;clear ax hlen;go_in
 go_wp2
 go_loopw [4] (fun s4 wr=>∃(k:Nat) (C:Array Value) (x:Ext) (fps:List (List Nat)),C.size=xs.length*16∧iF w w.heap.size wr C k fps xs∧wr=(w.alloc (.cells C 186)).ext x∧s4=.int .i64 k) (fun s4 _=>xs.length - (intOf s4).toNat)
 case atStart=>exact⟨0,C0,⟨#[],0⟩,[],HS.o,iF.start _ _ (Nat.le_refl _) (by simp),(lX _).symm,rfl⟩
 case round=>
  obtain⟨k,C,x,fps,hC,hp,rfl,rfl⟩:=hrel;have cK:=Kz hC;have hk:=hp.le
  by_cases I:k<xs.length
  ·obtain⟨b,off,rfl,hb⟩:=h3 k I
   have bq:=dI aI xs I;obtain⟨q0,q1,wF,wL,w9,xc,x9,yc,yu,za,zb,ze,zf,zg,zl,zn,dV,fe,fu,gB,gD,gF,zo,cO,dB,zq,zu,gT,gV,gX,ik,iw,kr,ku,-,-,ky,lq,oH,oL,o5,o9,qb,-,-,z0,z1,z2,z3,z4,z5,z6,z7,z8,z9,zx,zy,z12,zH,zL,zO,-⟩:=KW hu I (Gr.refl _);have bL:=Lb cO dB;have y0:k*16<C.size:=by omega
   have y1:k*16+1<C.size:=by omega
   have y2:k*16+2<C.size:=by omega
   have y3:k*16+3<C.size:=by omega
   have y4:k*16+4<C.size:=by omega
   have y5:k*16+5<C.size:=by omega
   have y6:k*16+6<C.size:=by omega
   have y7:k*16+7<C.size:=by omega
   have y8:k*16+8<C.size:=by omega
   have y9:k*16+9<C.size:=by omega
   have A7:k*16+10<C.size:=by omega
   have BM:k*16+11<C.size:=by omega
   have EB:k*16+12<C.size:=by omega
   have E5:k*16+13<C.size:=by omega
   have FX:k*16+14<C.size:=by omega
   have F4:k*16+15<C.size:=by omega
   have F5:aI xs[k]≤1048576:=Nat.le_trans bq cB.o;have bB:k*16+16≤C.size:=by omega
   have HD:=Kz bB;clear hC h3 bq bB
   go_wp2_with (go_at_call 133;refine(qE _ _ xs[k] _ (Rd.gr bL gd) (by omega)).mono ?_;rintro e w1 ⟨ds,fq,rfl,hs,hf,y,rfl⟩;have bH:=hs;generalize xs[k]=yr at bH;obtain⟨r0,r1,⟨J,K,O,T,U,V,X⟩,⟨Y,Z,ae,ah,ai,aj,ak⟩⟩:=yr;obtain⟨q8,q9,sO,uf,rfl,-,F6,F8,uo,uq,uz,u6,ve,vB,bR,vD,vF,vG,vL,vO,vR,bX⟩:=bS r0 r1 J K O T U V X Y Z ae ah ai aj ak bH;obtain⟨h,q,rfl,-,-,-⟩:=bR.open;obtain⟨B,D,rfl,-,-,-⟩:=bX.open)
   rw[iV,←Fv];refine⟨⟨k+1,setRow C (k*16) [.string r0,.string r1,.int .i64 J,.int .i64 K,.int .i64 O,.int .i64 T,.string U,.string V,.slice h X.length q,.int .i64 Y,.int .i64 Z,.int .i64 ae,.int .i64 ah,.string ai,.string aj,.slice B ak.length D],x.comp y,fps++[fq],?_,?_,rfl,by go_num⟩,by simp[intOf];omega⟩
   ·rw[setRow_size];exact cK.o
   ·refine hp.lT I (C':=setRow C (k*16) [.string r0,.string r1,.int .i64 J,.int .i64 K,.int .i64 O,.int .i64 T,.string U,.string V,.slice h X.length q,.int .i64 Y,.int .i64 Z,.int .i64 ae,.int .i64 ah,.string ai,.string aj,.slice B ak.length D]) (cs:=[.string r0,.string r1,.int .i64 J,.int .i64 K,.int .i64 O,.int .i64 T,.string U,.string V,.slice h X.length q,.int .i64 Y,.int .i64 Z,.int .i64 ae,.int .i64 ah,.string ai,.string aj,.slice B ak.length D]) ?_ hf (fun j hj=>jW _ _ _ _ hj) (jS _ _ _ HD.o)
    exact hs
  ·have dS:k=xs.length:=by omega
   subst dS;obtain⟨fq,hs,hf⟩:=hp.done (iD _ x) (cap:=xs.length) (Nat.le_refl _) (by unfold bn;omega);have HF:=Kz hs;clear hs hC
   go_wp2
   go_ret;exact⟨_,fq,rfl,HF.o,hf,gd⟩
end Go.Proofs.YtleafadpfeibfaaGreat
