/- Contracts and laws towards ReadsOf, part 9 of 54. No condition. -/
import Derived.Test.YtleafadpfeibfaaGreatRx07
import Derived.Test.YtleafadpfeibfaaGreatRx09
set_option maxHeartbeats 32000000
set_option maxRecDepth 10000
set_option linter.unusedVariables false
set_option linter.unusedSimpArgs false
namespace Go.Proofs.YtleafadpfeibfaaGreat
open Go.RowKit
open _root_.List (take_length)
variable{d:Nat}
variable{w w0:World}{b:Nat}{t:TypeId}{a0 a1:Value}
abbrev aX(d:Nat):=ag×(aA d)
def aU(x:(aX d)):Nat:=dn x.1+aS x.2
theorem bN{fp:List Nat}{cs:Array Value}(O:Int)(T:ByteArray)(q:Int)(B:Int)(D:Int)(I:Int)(J:ByteArray)(K:ByteArray)(U:List (GE d))(h:Rd.rd (α:=(aX d)) fp w cs.toList ((O,T),(q,B,D,I,J,K,U))):
  ∃V X,cs=#[.int .i64 O,.string T,.int .i64 q,.int .i64 B,.int .i64 D,.int .i64 I,.string J,.string K,V]∧fp=(([]++[])++([]++([]++([]++([]++([]++([]++X)))))))∧(Lit.int .i64 O).wf=true∧T.size≤maxLen∧(Lit.int .i64 q).wf=true∧(Lit.int .i64 B).wf=true∧(Lit.int .i64 D).wf=true∧(Lit.int .i64 I).wf=true∧J.size≤maxLen∧K.size≤maxLen∧SlR X w V U:=by
 generalize Z:cs.toList=l at h;obtain⟨_,ae,_,bX,rfl,rfl,⟨_,_,_,_,rfl,rfl,⟨rfl,rfl,ah⟩,⟨rfl,rfl,ai⟩⟩,bH⟩:=h;obtain⟨Y,bR,aj,ak,au,ax,ay,aZ,bg,bq,bB⟩:=aF (cs:=ae.toArray) q B D I J K U (by rw[List.toList_toArray];exact bH);have bL:ae=[.int .i64 q,.int .i64 B,.int .i64 D,.int .i64 I,.string J,.string K,Y]:=by have:=congrArg Array.toList aj;simpa using this
 rw[bL] at Z;exact⟨_,_,Array.toList_inj.1 (by simpa using Z),(by rw[ak]),ah,ai,au,ax,ay,aZ,bg,bq,bB⟩
theorem Ll{fp:List Nat}{c:Array Value}{x:(aX d)}(h:Rd.rd fp w c.toList x):
 ∃D I J K O T U V q X B Y,((D,I),(J,K,O,T,U,V,q))=x∧c=#[.int .i64 D,.string I,.int .i64 J,.int .i64 K,.int .i64 O,.int .i64 T,.string U,.string V,.slice X q.length B]∧True∧(Lit.int .i64 D).wf=true∧I.size≤maxLen∧(Lit.int .i64 J).wf=true∧(Lit.int .i64 K).wf=true∧(Lit.int .i64 O).wf=true∧(Lit.int .i64 T).wf=true∧U.size≤maxLen∧V.size≤maxLen∧SlR Y w (.slice X q.length B) q∧q.length≤B∧q.length≤140737488351232:=by
 obtain⟨⟨D,I⟩,⟨J,K,O,T,U,V,q⟩⟩:=x;obtain⟨bq,Y,rfl,hf,ae,ah,ai,aj,ak,au,ax,ay,Z⟩:=bN D I J K O T U V q h;obtain⟨X,B,rfl,aZ,bg,-⟩:=Z.open;exact⟨_,_,_,_,_,_,_,_,_,_,_,_,rfl,rfl,⟨⟩,ae,ah,ai,aj,ak,au,ax,ay,Z,aZ,bg⟩
theorem KY{f:List Nat}{u:World}{o n m k:Nat}{xs:List ((aX d))}(h:SlR f w (.slice (some ⟨b,o,none⟩) n m) xs)(hl:k<xs.length)(g:Gr w u):
 ∃D I J K O T U V q X B Y fe,Ky (((D,I),(J,K,O,T,U,V,q))=xs[k])∧Ky (Rd.rd (α:=(aX d)) fe w [.int .i64 D,.string I,.int .i64 J,.int .i64 K,.int .i64 O,.int .i64 T,.string U,.string V,.slice X q.length B] ((D,I),(J,K,O,T,U,V,q)))∧(Lit.int .i64 D).wf=true∧I.size≤maxLen∧(Lit.int .i64 J).wf=true∧(Lit.int .i64 K).wf=true∧(Lit.int .i64 O).wf=true∧(Lit.int .i64 T).wf=true∧U.size≤maxLen∧V.size≤maxLen∧SlR Y w (.slice X q.length B) q∧q.length≤B∧q.length≤140737488351232∧u.cell? ⟨b,o+k*9,none⟩=some (.int .i64 D)∧u.cell? ⟨b,o+k*9+1,none⟩=some (.string I)∧u.cell? ⟨b,o+k*9+2,none⟩=some (.int .i64 J)∧u.cell? ⟨b,o+k*9+3,none⟩=some (.int .i64 K)∧u.cell? ⟨b,o+k*9+4,none⟩=some (.int .i64 O)∧u.cell? ⟨b,o+k*9+5,none⟩=some (.int .i64 T)∧u.cell? ⟨b,o+k*9+6,none⟩=some (.string U)∧u.cell? ⟨b,o+k*9+7,none⟩=some (.string V)∧u.cell? ⟨b,o+k*9+8,none⟩=some (.slice X q.length B)∧b<u.heap.size:=by
 obtain⟨_,fe,hc,hr⟩:=h.el hl;obtain⟨D,I,J,K,O,T,U,V,q,X,B,Y,hy,rfl,-,Z,ae,ah,ai,aj,ak,au,ax,ay,aZ,bg⟩:=Ll hr;have z:=g.keep (hc 0 _ rfl);exact⟨_,_,_,_,_,_,_,_,_,_,_,_,_,Kz hy,Lt hy hr,Z,ae,ah,ai,aj,ak,au,ax,ay,aZ,bg,z,g.keep (hc 1 _ rfl),g.keep (hc 2 _ rfl),g.keep (hc 3 _ rfl),g.keep (hc 4 _ rfl),g.keep (hc 5 _ rfl),g.keep (hc 6 _ rfl),g.keep (hc 7 _ rfl),g.keep (hc 8 _ rfl),blk z⟩
theorem ql(h:Int)(q:ByteArray)(B:Int)(D:Int)(I:Int)(J:Int)(K:ByteArray)(O:ByteArray)(V:List (GE d)){T:Value}{U:List Nat}(X:(Lit.int .i64 h).wf=true)(Y:q.size≤maxLen)(Z:(Lit.int .i64 B).wf=true)(ae:(Lit.int .i64 D).wf=true)(ah:(Lit.int .i64 I).wf=true)(ai:(Lit.int .i64 J).wf=true)(aj:K.size≤maxLen)(ak:O.size≤maxLen)(au:SlR U w T V):
  Rd.rd (α:=(aX d)) ((([]++[])++([]++([]++([]++([]++([]++([]++U)))))))) w [.int .i64 h,.string q,.int .i64 B,.int .i64 D,.int .i64 I,.int .i64 J,.string K,.string O,T] ((h,q),(B,D,I,J,K,O,V)):=⟨_,_,_,_,rfl,rfl,⟨_,_,_,_,rfl,rfl,⟨rfl,rfl,X⟩,⟨rfl,rfl,Y⟩⟩,⟨_,_,_,_,rfl,rfl,⟨rfl,rfl,Z⟩,⟨_,_,_,_,rfl,rfl,⟨rfl,rfl,ae⟩,⟨_,_,_,_,rfl,rfl,⟨rfl,rfl,ah⟩,⟨_,_,_,_,rfl,rfl,⟨rfl,rfl,ai⟩,⟨_,_,_,_,rfl,rfl,⟨rfl,rfl,aj⟩,⟨_,_,_,_,rfl,rfl,⟨rfl,rfl,ak⟩,⟨_,rfl,au⟩⟩⟩⟩⟩⟩⟩⟩
theorem xE(fp:List Nat)(cs:Array Value)(x:(aX d))(left:Int)(w:World)(hx:Rd.rd fp w cs.toList x)(h0:0≤left)(h1:left≤1048576):
  Qz 120 #[.agg cs,.int .i64 left] w (.int .i64 (less left (aU x))):=by
 obtain⟨⟨q,B⟩,⟨D,I,J,K,O,T,U⟩⟩:=x;obtain⟨bH,bL,rfl,-,au,Y,ax,ay,aZ,bg,Z,ae,ah⟩:=bN q B D I J K O T U hx;have ai:=(bO q B au Y:Rd.rd (α:=ag) _ w _ _);obtain⟨h,V⟩:∃y:ag,y=(q,B):=⟨_,rfl⟩;rw[←V] at ai;have bq:=Kz V;clear V;have aj:=(bJ D I J K O T U ax ay aZ bg Z ae ah:Rd.rd (α:=(aA d)) _ w _ _);obtain⟨y1,X⟩:∃y:(aA d),y=(D,I,J,K,O,T,U):=⟨_,rfl⟩;rw[←X] at aj;have bB:=Kz X;clear X;unfold maxLen at Y;unfold maxLen at Z;unfold maxLen at ae;obtain⟨bR,bX,rfl,cB,cK,-⟩:=ah.open;have ak:aU ((q,B),(D,I,J,K,O,T,U))=(dn h)+(aS y1):=by rw[bq.o];rw[bB.o];rfl
 have HW:=Kz ak;clear ak hx;delta Qz;go_in;go_wp2_with fail;refine(tT _ _ h _ _ (Rd.gr ai gd) (by omega) (by omega)).mono ?_;rintro e w0 ⟨rfl,x0,rfl⟩;have cO:=fD (left) (dn h) (by omega);go_wp2_with fail
 ·go_ret
  refine⟨aC ?_,gd⟩;have:=aH left (aU ((q,B),(D,I,J,K,O,T,U)));have:=HW.o;have:=aH (left) (dn h);omega
 ·skip
  refine(qx _ _ y1 _ _ (Rd.gr aj gd) (by have:=aH (left) (dn h);omega) (by have:=aH (left) (dn h);omega)).mono ?_;rintro e w1 ⟨rfl,x1,rfl⟩;have dB:=fD (less (left) (dn h)) (aS y1) (by have:=aH (left) (dn h);omega);go_wp2_with fail
  ·go_ret
   refine⟨aC ?_,gd⟩;have:=aH left (aU ((q,B),(D,I,J,K,O,T,U)));have:=HW.o;have:=aH (left) (dn h);have:=aH (less (left) (dn h)) (aS y1);omega
  ·skip
   go_ret;refine⟨aC ?_,gd⟩;have:=aH left (aU ((q,B),(D,I,J,K,O,T,U)));have:=HW.o;have:=aH (left) (dn h);have:=aH (less (left) (dn h)) (aS y1);omega
theorem Ar(h:Int)(q:ByteArray)(B:Int)(D:Int)(I:Int)(J:Int)(K:ByteArray)(O:ByteArray)(T:List (GE d))(U:Int)(V:ByteArray)(X:Int)(Y:Int)(Z:Int)(ae:Int)(ah:ByteArray)(ai:ByteArray)(aj:List (GE d))(e0:(h,q)=(U,V))(e1:(B,D,I,J,K,O,T)=(X,Y,Z,ae,ah,ai,aj)):(((h,q),(B,D,I,J,K,O,T)):(aX d))=((U,V),(X,Y,Z,ae,ah,ai,aj)):=by
 exact Prod.ext_iff.2 ⟨e0,e1⟩
theorem xB(fp fq:List Nat)(cs ds:Array Value)(x y:(aX d))(w:World)(hx:Rd.rd fp w cs.toList x)(hy:Rd.rd fq w ds.toList y):
  Qz 150 #[.agg cs,.agg ds] w (.bool (decide (x=y))):=by
 obtain⟨⟨I,J⟩,⟨K,O,T,U,V,X,Y⟩⟩:=x;obtain⟨⟨Z,ae⟩,⟨ah,ai,aj,ak,au,ax,ay⟩⟩:=y;obtain⟨ky,lq,rfl,-,cO,dB,dS,dV,fe,fu,gB,gD,aZ⟩:=bN I J K O T U V X Y hx;obtain⟨oH,oL,rfl,-,gF,gT,gV,gX,ik,iw,kr,ku,bg⟩:=bN Z ae ah ai aj ak au ax ay hy;have bq:=(bO I J cO dB:Rd.rd (α:=ag) _ w _ _);obtain⟨y0,h⟩:∃y:ag,y=(I,J):=⟨_,rfl⟩;rw[←h] at bq;have bB:=Kz h;clear h;have bH:=(bJ K O T U V X Y dS dV fe fu gB gD aZ:Rd.rd (α:=(aA d)) _ w _ _);obtain⟨y1,q⟩:∃y:(aA d),y=(K,O,T,U,V,X,Y):=⟨_,rfl⟩;rw[←q] at bH;have bL:=Kz q;clear q;have bR:=(bO Z ae gF gT:Rd.rd (α:=ag) _ w _ _);obtain⟨z0,B⟩:∃y:ag,y=(Z,ae):=⟨_,rfl⟩;rw[←B] at bR;have bX:=Kz B;clear B;have cB:=(bJ ah ai aj ak au ax ay gV gX ik iw kr ku bg:Rd.rd (α:=(aA d)) _ w _ _);obtain⟨z1,D⟩:∃y:(aA d),y=(ah,ai,aj,ak,au,ax,ay):=⟨_,rfl⟩;rw[←D] at cB;have cK:=Kz D;clear D;obtain⟨o5,o9,rfl,-,-,-⟩:=aZ.open;obtain⟨qb,q8,rfl,-,-,-⟩:=bg.open;clear hx hy;delta Qz;go_in;go_wp2_with fail;refine(sN _ _ _ _ y0 z0 _ (Rd.gr bq gd) (Rd.gr bR gd)).mono ?_;rintro e w0 ⟨rfl,x0,rfl⟩;go_wp2_with fail
 ·have ht:(!decide (y0=z0))=true:=by assumption
  go_ret;exact⟨aa (decide_eq_false fun e=>iy ht (bB.o.trans ((congrArg (fun z:(aX d)=>z.1) e).trans bX.o.symm))).symm,gd⟩
 ·skip
  have e0:=Kz (iq (show(!decide (y0=z0))=false by assumption));refine(qI _ _ _ _ y1 z1 _ (Rd.gr bH gd) (Rd.gr cB gd)).mono ?_;rintro e w1 ⟨rfl,x1,rfl⟩;go_wp2_with fail
  ·have ht:(!decide (y1=z1))=true:=by assumption
   go_ret;exact⟨aa (decide_eq_false fun e=>iy ht (bL.o.trans ((congrArg (fun z:(aX d)=>z.2) e).trans cK.o.symm))).symm,gd⟩
  ·skip
   have e1:=Kz (iq (show(!decide (y1=z1))=false by assumption));go_ret;exact⟨aa (decide_eq_true (Ar I J K O T U V X Y Z ae ah ai aj ak au ax ay (bB.o.symm.trans (e0.o.trans bX.o)) (bL.o.symm.trans (e1.o.trans cK.o)))).symm,gd⟩
theorem xI(fp:List Nat)(cs:Array Value)(x:(aX d))(w:World)(hx:Rd.rd fp w cs.toList x)(hl:aU x≤1048576):
  Calls Tryz.prog 132 #[.agg cs] w fun e w'=>∃ds fq,e=.returned (.agg ds)∧Rd.rd fq w' ds.toList x∧aY w fq∧Gr w w':=by
 obtain⟨⟨O,T⟩,⟨h,q,B,D,I,J,K⟩⟩:=x;obtain⟨cO,dB,rfl,-,X,Y,Z,ae,ah,ai,aj,ak,au⟩:=bN O T h q B D I J K hx;have ax:=(bO O T X Y:Rd.rd (α:=ag) _ w _ _);obtain⟨y0,U⟩:∃y:ag,y=(O,T):=⟨_,rfl⟩;rw[←U] at ax;have cB:=Kz U;clear U;have ay:=(bJ h q B D I J K Z ae ah ai aj ak au:Rd.rd (α:=(aA d)) _ w _ _);obtain⟨y1,V⟩:∃y:(aA d),y=(h,q,B,D,I,J,K):=⟨_,rfl⟩;rw[←V] at ay;have aZ:=Kz V;clear V;obtain⟨dS,dV,rfl,-,-,-⟩:=au.open;have bR:aU ((O,T),(h,q,B,D,I,J,K))=(dn y0)+(aS y1):=by rw[cB.o];rw[aZ.o];rfl
 have HW:=Kz bR;clear bR hx;go_in;go_wp2_with fail;refine(sJ _ _ y0 _ (Rd.gr ax gd)).mono ?_;rintro e w0 ⟨rfl,x0,rfl⟩;go_wp2_with fail;refine(qF _ _ y1 _ (Rd.gr ay gd) (by have:=HW.o;omega)).mono ?_;rintro e w1 ⟨fu,g1,rfl,s1,bg,x1,rfl⟩;rw[aZ.o] at s1;obtain⟨fe,cK,rfl,bX,-,-,-,-,-,-,bq⟩:=aF h q B D I J K s1;rw[bX] at bg;clear bX;obtain⟨bH,bL,rfl,-,-,-⟩:=bq.open;go_wp2_with fail
 have bB:aY w cK:=by
  exact(aY.of_le bg (by simp<;>omega))
 exact bodyPost_ret (v:=.agg #[.int .i64 O,.string T,.int .i64 h,.int .i64 q,.int .i64 B,.int .i64 D,.string I,.string J,.slice bH K.length bL]) (by simp[results,Tryz.results132,go_sem]) rfl
  ⟨_,_,rfl,ql O T h q B D I J K X Y Z ae ah ai aj ak (SlR.moved bq bg gd (by simp)),bB,gd⟩
def cz(xs:List (aX d)):Nat:=wtL aU xs
theorem vw(fp:List Nat)(u:Value)(xs:List (aX d))(left:Int)(w:World)(hu:SlR fp w u xs)(Z:0≤left)(h1:left≤1048576):
  Qz 90 #[u,.int .i64 left] w (.int .i64 (less left (cz xs))):=by
 obtain⟨a,ca,rfl,g1,g2,g3⟩:=hu.open
 by_cases J:left - xs.length<0
 ·have hle:less left (cz xs)= -1:=by unfold less cz wtL;rw[if_pos (by omega)]
  have HL:=Kz hle;clear hle;delta Qz;go_in
  go_wp2
  go_ret;exact⟨aC HL.o.symm,Gr.refl w⟩
 ·have I:less left xs.length=left - xs.length:=by unfold less;rw[if_neg J]
  have T:=Kz I;clear I;delta Qz;go_in
  go_wp2
  go_loopw [5,1] (fun K s1 wr=>∃(k:Nat) (m:Int),k≤xs.length∧0≤m∧m≤1048576∧Ky (m=less left (xs.length+((xs.take k).map aU).sum))∧Gr w wr∧K=.int .i64 k∧s1=.int .i64 m) (fun K _ _=>xs.length - (intOf K).toNat)
  case atStart=>exact⟨0,_,by omega,by omega,by omega,Kz (by simp[T.o]),Gr.refl w,rfl,rfl⟩
  case round=>
   obtain⟨k,m,hk,bH,bL,hm,⟨x,rfl⟩,rfl,rfl⟩:=hrel
   by_cases h:k<xs.length
   ·obtain⟨b,off,rfl,hb⟩:=g3 k h
    have q:=Kz (eZ aU xs k h);obtain⟨bR,bX,cB,cK,cO,dB,dS,dV,fe,ae,ah,ai,fu,U,V,aj,ak,au,ax,ay,aZ,bg,bq,bB,-,-,z0,z1,z2,z3,z4,z5,z6,z7,z8,-⟩:=KY hu h (Gr.refl _);have O:=Lb U V;have Y:=fD m (aU xs[k]) (by omega);clear g3
    go_wp2_with (go_at_call 120;refine(xE _ _ xs[k] _ _ (Rd.gr O ((Gr.refl w).ext _)) (by omega) (by omega)).mono ?_;rintro e w1 ⟨rfl,y,rfl⟩)
    ·have D:less m (aU xs[k])<0:=by assumption
     go_ret;refine⟨aC ?_,gd⟩;have e:=hm.o;subst e;rw[fE,Nat.add_assoc,←q.o] at D;exact(jV D (Nat.add_le_add_left (gJ aU xs (k+1)) _) Z).symm
    ·have D:0≤less m (aU xs[k]):=by assumption
     refine⟨⟨k+1,_,by omega,D,by omega,Kz ?_,gd,by go_num,rfl⟩,by simp[intOf];omega⟩;rw[q.o,hm.o,fE,Nat.add_assoc]
   ·have X:k=xs.length:=by omega
    subst X;have B:=hm.o;rw[take_length] at B;have HM:=Kz B;clear B hm
    go_wp2
    go_ret;exact⟨aC HM.o,gd⟩
theorem vM(fp fq:List Nat)(u v:Value)(xs q:List (aX d))(w:World)(hu:SlR fp w u xs)(hv:SlR fq w v q):
  Qz 113 #[u,v] w (.bool (decide (xs=q))):=by
 obtain⟨a,ca,rfl,h1,h2,U⟩:=hu.open;obtain⟨c,cc,rfl,g1,g2,g3⟩:=hv.open
 by_cases D:xs.length=q.length
 ·have J:=Kz D
  have V:((xs.length:Int)!=(q.length:Int))=false:=by simp[D]
  clear D;delta Qz;go_in
  go_wp2
  go_loopw [5] (fun K wr=>∃k:Nat,k≤xs.length∧xs.take k=q.take k∧Gr w wr∧K=.int .i64 k) (fun K _=>xs.length - (intOf K).toNat)
  case atStart=>exact⟨0,by omega,rfl,Gr.refl w,rfl⟩
  case round=>
   obtain⟨k,hk,ht,⟨x,rfl⟩,rfl⟩:=hrel
   by_cases I:k<xs.length
   ·have B:k<q.length:=by have:=J.o;omega
    obtain⟨b,off,rfl,hb⟩:=U k I;obtain⟨b',ai,rfl,gT⟩:=g3 k B;obtain⟨gV,gX,ik,iw,kr,ku,ky,lq,oH,aj,ak,au,oL,X,Y,ax,ay,aZ,bg,bq,bB,bH,bL,bR,-,-,z0,z1,z2,z3,z4,z5,z6,z7,z8,-⟩:=KY hu I (Gr.refl _);have O:=Lb X Y;obtain⟨o5,o9,qb,q8,q9,sO,uf,uo,uq,bX,cB,cK,uz,Z,ae,cO,dB,dS,dV,fe,fu,gB,gD,gF,-,-,u6,ve,vB,vD,vF,vG,vL,vO,vR,-⟩:=KY hv B (Gr.refl _);have T:=Lb Z ae;have hT:=Kz ht;clear U g3 ht;go_wp2_with fail;refine wg ?_
    repeat(go_big_quiet_step ((go_at_call 150;refine aG (xB _ _ _ _ xs[k] q[k] _ (Rd.gr O ?_) (Rd.gr T ?_))<;>exact((Gr.refl w).ext _).ext _)))
    refine wq fun nx=>?_
    go_wp2
    ·have ht:(!decide (xs[k]=q[k]))=true:=by assumption
     go_ret;have E:xs≠q:=fun e=>iy ht (by subst e;rfl)
     exact⟨aa (decide_eq_false E).symm,gd⟩
    ·have ht:(!decide (xs[k]=q[k]))=false:=by assumption
     have e2:=iq ht;refine⟨⟨k+1,by omega,?_,gd,by go_num⟩,by simp[intOf];omega⟩;rw[List.take_succ_eq_append_getElem I,List.take_succ_eq_append_getElem B,hT.o,e2]
   ·have ah:k=xs.length:=by omega
    subst ah
    have e:xs=q:=by
     have h:=ht;have h':=J.o;rw[take_length,h',take_length] at h;exact h
    have E:=Kz e;clear e ht
    go_wp2
    go_ret;exact⟨aa (decide_eq_true E.o).symm,gd⟩
 ·have V:((xs.length:Int)!=(q.length:Int))=true:=by simp;omega
  have e:xs≠q:=fun e=>D (by rw[e])
  have E:=Kz e;clear e D;delta Qz;go_in
  go_wp2
  go_ret;exact⟨aa (decide_eq_false E.o).symm,Gr.refl w⟩
theorem Tryz.AP:(Tryz.prog.info? 183).map (fun i=>(i.zero,i.size,i.bytes))=some (some (.agg #[.int .i64 0,.string ByteArray.empty,.int .i64 0,.int .i64 0,.int .i64 0,.int .i64 0,.string ByteArray.empty,.string ByteArray.empty,.slice none 0 0]),9,112):=by kernel_rfl
theorem vH(fp:List Nat)(u:Value)(xs:List (aX d))(w:World)(hu:SlR fp w u xs)(hlen:cz xs≤1048576):
  Calls Tryz.prog 101 #[u] w fun e w'=>∃v fq,e=.returned v∧SlR fq w' v xs∧aY w fq∧Gr w w':=by
 obtain⟨a,ca,rfl,h1,h2,h3⟩:=hu.open;have lq:xs.length≤1048576:=Nat.le_trans (bT aU xs) hlen;obtain⟨i0,hi,ae,ah,ai⟩:=info_parts Tryz.AP;have Y:=fun(W:World)=>run_make (P:=Tryz.prog) W 125 183 i0 (.agg #[.int .i64 0,.string ByteArray.empty,.int .i64 0,.int .i64 0,.int .i64 0,.int .i64 0,.string ByteArray.empty,.string ByteArray.empty,.slice none 0 0]) Tryz.underlying125 hi ae .i64 .i64 xs.length xs.length (by omega) (by omega) (by rw[ai];omega) (by omega)
 rw[ah] at Y;clear hi ae ah ai;simp only[Int.toNat_natCast] at Y;have Z:=size_madeCells (Value.agg #[.int .i64 0,.string ByteArray.empty,.int .i64 0,.int .i64 0,.int .i64 0,.int .i64 0,.string ByteArray.empty,.string ByteArray.empty,.slice none 0 0]).cells (xs.length*9);generalize madeCells (Value.agg #[.int .i64 0,.string ByteArray.empty,.int .i64 0,.int .i64 0,.int .i64 0,.int .i64 0,.string ByteArray.empty,.string ByteArray.empty,.slice none 0 0]).cells (xs.length*9)=C0 at Y Z;have HS:=Kz Z;have aZ:=Kz hlen;clear Z hlen;go_in
 go_wp2
 go_loopw [4] (fun s4 wr=>∃(k:Nat) (C:Array Value) (x:Ext) (fps:List (List Nat)),C.size=xs.length*9∧iF w w.heap.size wr C k fps xs∧wr=(w.alloc (.cells C 183)).ext x∧s4=.int .i64 k) (fun s4 _=>xs.length - (intOf s4).toNat)
 case atStart=>exact⟨0,C0,⟨#[],0⟩,[],HS.o,iF.start _ _ (Nat.le_refl _) (by simp),(lX _).symm,rfl⟩
 case round=>
  obtain⟨k,C,x,fps,hC,hp,rfl,rfl⟩:=hrel;have bg:=Kz hC;have hk:=hp.le
  by_cases B:k<xs.length
  ·obtain⟨b,off,rfl,hb⟩:=h3 k B
   have aj:=dI aU xs B;obtain⟨oH,oL,o5,o9,qb,q8,q9,sO,uf,bL,bR,bX,uo,bq,bB,cB,cK,cO,dB,dS,dV,fe,fu,gB,-,-,z0,z1,z2,z3,z4,z5,z6,z7,z8,-⟩:=KY hu B (Gr.refl _);have ax:=Lb bq bB;have y0:k*9<C.size:=by omega
   have y1:k*9+1<C.size:=by omega
   have y2:k*9+2<C.size:=by omega
   have y3:k*9+3<C.size:=by omega
   have y4:k*9+4<C.size:=by omega
   have y5:k*9+5<C.size:=by omega
   have y6:k*9+6<C.size:=by omega
   have y7:k*9+7<C.size:=by omega
   have y8:k*9+8<C.size:=by omega
   have uq:aU xs[k]≤1048576:=Nat.le_trans aj aZ.o;have ak:k*9+9≤C.size:=by omega
   have HD:=Kz ak;clear hC h3 aj ak
   go_wp2_with (go_at_call 132;refine(xI _ _ xs[k] _ (Rd.gr ax gd) (by omega)).mono ?_;rintro e w1 ⟨ds,fq,rfl,hs,hf,y,rfl⟩;have au:=hs;generalize xs[k]=yr at au;obtain⟨⟨D,I⟩,⟨J,K,O,T,U,V,X⟩⟩:=yr;obtain⟨gD,gF,rfl,-,gT,gV,gX,ik,iw,kr,ku,ky,ay⟩:=bN D I J K O T U V X au;obtain⟨h,q,rfl,-,-,-⟩:=ay.open)
   rw[iV,←Gl];refine⟨⟨k+1,setRow C (k*9) [.int .i64 D,.string I,.int .i64 J,.int .i64 K,.int .i64 O,.int .i64 T,.string U,.string V,.slice h X.length q],x.comp y,fps++[fq],?_,?_,rfl,by go_num⟩,by simp[intOf];omega⟩
   ·rw[setRow_size];exact bg.o
   ·refine hp.lT B (C':=setRow C (k*9) [.int .i64 D,.string I,.int .i64 J,.int .i64 K,.int .i64 O,.int .i64 T,.string U,.string V,.slice h X.length q]) (cs:=[.int .i64 D,.string I,.int .i64 J,.int .i64 K,.int .i64 O,.int .i64 T,.string U,.string V,.slice h X.length q]) ?_ hf (fun j hj=>jW _ _ _ _ hj) (jS _ _ _ HD.o)
    exact hs
  ·have bH:k=xs.length:=by omega
   subst bH;obtain⟨fq,hs,hf⟩:=hp.done (iD _ x) (cap:=xs.length) (Nat.le_refl _) (by unfold bn;omega);have HF:=Kz hs;clear hs hC
   go_wp2
   go_ret;exact⟨_,fq,rfl,HF.o,hf,gd⟩
theorem az.new{A:World}{n:Nat}{vs:List Value}(h:n=A.heap.size):az (A.alloc (.cells vs.toArray t)) n t vs:=by subst h;exact heap_alloc_new A _
theorem kv{B:World}{a:Nat}{v:List Value}(h:az B a t v:=by repeat(first|((with_reducible refine az.new ?_)<;>first|omega|(simp;done)|(simp;omega)|rfl)|(with_reducible refine az.gr ?_ (Gr.alloc (Gr.refl _) _))|(with_reducible refine az.gr ?_ (Gr.ext (Gr.refl _) _))|(with_reducible refine az.gr ?_ (Gr.drew (Gr.refl _))))):az B a t v:=h
theorem az.nR(h:az w b t [a0,a1])(v0 v1:Value):az ((w.setCell ⟨b,0,none⟩ v0).setCell ⟨b,1,none⟩ v1) b t [v0,v1]:=(az.set (az.set h 0 v0) 1 v1)
theorem Gr.nR(h:Gr w0 w)(hb:w0.heap.size≤b)(v0 v1:Value):Gr w0 ((w.setCell ⟨b,0,none⟩ v0).setCell ⟨b,1,none⟩ v1):=(Gr.setCell (p:=⟨b,1,none⟩) (Gr.setCell (p:=⟨b,0,none⟩) h hb v0) hb v1)
theorem Wr.nR(w:World)(b:Nat)(v0 v1:Value):Wr [b] w ((w.setCell ⟨b,0,none⟩ v0).setCell ⟨b,1,none⟩ v1):=(Wr.setCell (Wr.setCell (Wr.refl [b] w) (List.mem_singleton.2 rfl) v0) (List.mem_singleton.2 rfl) v1)
theorem az.GD{a2 a3:Value}(h:az w b t [a0,a1,a2,a3])(v0 v1 v2 v3:Value):az ((((w.setCell ⟨b,0,none⟩ v0).setCell ⟨b,1,none⟩ v1).setCell ⟨b,2,none⟩ v2).setCell ⟨b,3,none⟩ v3) b t [v0,v1,v2,v3]:=(az.set (az.set (az.set (az.set h 0 v0) 1 v1) 2 v2) 3 v3)
theorem Gr.GD(h:Gr w0 w)(hb:w0.heap.size≤b)(v0 v1 v2 v3:Value):Gr w0 ((((w.setCell ⟨b,0,none⟩ v0).setCell ⟨b,1,none⟩ v1).setCell ⟨b,2,none⟩ v2).setCell ⟨b,3,none⟩ v3):=(Gr.setCell (p:=⟨b,3,none⟩) (Gr.setCell (p:=⟨b,2,none⟩) (Gr.setCell (p:=⟨b,1,none⟩) (Gr.setCell (p:=⟨b,0,none⟩) h hb v0) hb v1) hb v2) hb v3)
theorem Wr.GD(w:World)(b:Nat)(v0 v1 v2 v3:Value):Wr [b] w ((((w.setCell ⟨b,0,none⟩ v0).setCell ⟨b,1,none⟩ v1).setCell ⟨b,2,none⟩ v2).setCell ⟨b,3,none⟩ v3):=(Wr.setCell (Wr.setCell (Wr.setCell (Wr.setCell (Wr.refl [b] w) (List.mem_singleton.2 rfl) v0) (List.mem_singleton.2 rfl) v1) (List.mem_singleton.2 rfl) v2) (List.mem_singleton.2 rfl) v3)
theorem az.ic{a2 a3 a4 a5 a6 a7:Value}(h:az w b t [a0,a1,a2,a3,a4,a5,a6,a7])(v0 v1 v2 v3 v4 v5 v6 q:Value):az ((((((((w.setCell ⟨b,0,none⟩ v0).setCell ⟨b,1,none⟩ v1).setCell ⟨b,2,none⟩ v2).setCell ⟨b,3,none⟩ v3).setCell ⟨b,4,none⟩ v4).setCell ⟨b,5,none⟩ v5).setCell ⟨b,6,none⟩ v6).setCell ⟨b,7,none⟩ q) b t [v0,v1,v2,v3,v4,v5,v6,q]:=(az.set (az.set (az.set (az.set (az.set (az.set (az.set (az.set h 0 v0) 1 v1) 2 v2) 3 v3) 4 v4) 5 v5) 6 v6) 7 q)
theorem Gr.ic(h:Gr w0 w)(hb:w0.heap.size≤b)(v0 v1 v2 v3 v4 v5 v6 q:Value):Gr w0 ((((((((w.setCell ⟨b,0,none⟩ v0).setCell ⟨b,1,none⟩ v1).setCell ⟨b,2,none⟩ v2).setCell ⟨b,3,none⟩ v3).setCell ⟨b,4,none⟩ v4).setCell ⟨b,5,none⟩ v5).setCell ⟨b,6,none⟩ v6).setCell ⟨b,7,none⟩ q):=(Gr.setCell (p:=⟨b,7,none⟩) (Gr.setCell (p:=⟨b,6,none⟩) (Gr.setCell (p:=⟨b,5,none⟩) (Gr.setCell (p:=⟨b,4,none⟩) (Gr.setCell (p:=⟨b,3,none⟩) (Gr.setCell (p:=⟨b,2,none⟩) (Gr.setCell (p:=⟨b,1,none⟩) (Gr.setCell (p:=⟨b,0,none⟩) h hb v0) hb v1) hb v2) hb v3) hb v4) hb v5) hb v6) hb q)
theorem Wr.ic(w:World)(b:Nat)(v0 v1 v2 v3 v4 v5 v6 h:Value):Wr [b] w ((((((((w.setCell ⟨b,0,none⟩ v0).setCell ⟨b,1,none⟩ v1).setCell ⟨b,2,none⟩ v2).setCell ⟨b,3,none⟩ v3).setCell ⟨b,4,none⟩ v4).setCell ⟨b,5,none⟩ v5).setCell ⟨b,6,none⟩ v6).setCell ⟨b,7,none⟩ h):=(Wr.setCell (Wr.setCell (Wr.setCell (Wr.setCell (Wr.setCell (Wr.setCell (Wr.setCell (Wr.setCell (Wr.refl [b] w) (List.mem_singleton.2 rfl) v0) (List.mem_singleton.2 rfl) v1) (List.mem_singleton.2 rfl) v2) (List.mem_singleton.2 rfl) v3) (List.mem_singleton.2 rfl) v4) (List.mem_singleton.2 rfl) v5) (List.mem_singleton.2 rfl) v6) (List.mem_singleton.2 rfl) h)
end Go.Proofs.YtleafadpfeibfaaGreat
