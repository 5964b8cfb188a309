/- Contracts and laws towards ReadsOf, part 6 of 54. No condition. -/
import Derived.Test.YtdhighcpmcdmmaaGreatFx07
set_option maxHeartbeats 32000000
set_option maxRecDepth 10000
set_option linter.unusedVariables false
set_option linter.unusedSimpArgs false
namespace Go.Proofs.YtdhighcpmcdmmaaGreat
open Go.RowKit
open _root_.List (take_length)
variable{d:Nat}
variable{w:World}
abbrev aD(d:Nat):=ByteArray×ByteArray×(aA d)×(aA d)
def aI(x:(aD d)):Nat:=x.1.size+x.2.1.size+ak x.2.2.1+ak x.2.2.2
instance decContribution:DecidableEq (aD d):=@instDecidableEqProd _ _ _ (@instDecidableEqProd _ _ _ (@instDecidableEqProd _ _ _ (inferInstance)))
theorem bS{fp:List Nat}{cs:Array Value}(q0:ByteArray)(q1:ByteArray)(q:Int)(s:Int)(B:Int)(D:Int)(E:ByteArray)(H:ByteArray)(X:List (GE d))(I:Int)(J:Int)(K:Int)(O:Int)(T:ByteArray)(U:ByteArray)(Y:List (GE d))(h:Rd.rd (α:=(aD d)) fp w cs.toList (q0,q1,(q,s,B,D,E,H,X),(I,J,K,O,T,U,Y))):
  ∃Z ae ah ai,cs=#[.string q0,.string q1,.int .i64 q,.int .i64 s,.int .i64 B,.int .i64 D,.string E,.string H,Z,.int .i64 I,.int .i64 J,.int .i64 K,.int .i64 O,.string T,.string U,ah]∧fp=([]++([]++(([]++([]++([]++([]++([]++([]++ae))))))++([]++([]++([]++([]++([]++([]++ai)))))))))∧q0.size≤maxLen∧q1.size≤maxLen∧(Lit.int .i64 q).wf=true∧(Lit.int .i64 s).wf=true∧(Lit.int .i64 B).wf=true∧(Lit.int .i64 D).wf=true∧E.size≤maxLen∧H.size≤maxLen∧SlR ae w Z X∧(Lit.int .i64 I).wf=true∧(Lit.int .i64 J).wf=true∧(Lit.int .i64 K).wf=true∧(Lit.int .i64 O).wf=true∧T.size≤maxLen∧U.size≤maxLen∧SlR ai w ah Y:=by
 generalize aj:cs.toList=l at h;obtain⟨_,_,_,_,rfl,rfl,⟨rfl,rfl,dG⟩,⟨_,_,_,_,rfl,rfl,⟨rfl,rfl,dL⟩,⟨ay,aL,fA,fK,rfl,rfl,dU,dW⟩⟩⟩:=h;obtain⟨au,fu,aN,aS,aV,aZ,bg,bq,bB,bD,bH⟩:=aF (cs:=ay.toArray) q s B D E H X (by rw[List.toList_toArray];exact dU);have eH:ay=[.int .i64 q,.int .i64 s,.int .i64 B,.int .i64 D,.string E,.string H,au]:=by have:=congrArg Array.toList aN;simpa using this
 rw[eH] at aj;obtain⟨ax,fw,bK,bL,bN,bV,cK,cO,dz,dA,dC⟩:=aF (cs:=aL.toArray) I J K O T U Y (by rw[List.toList_toArray];exact dW);have fe:aL=[.int .i64 I,.int .i64 J,.int .i64 K,.int .i64 O,.string T,.string U,ax]:=by have:=congrArg Array.toList bK;simpa using this
 rw[fe] at aj;exact⟨_,_,_,_,Array.toList_inj.1 (by simpa using aj),(by rw[aS,bL]),dG,dL,aV,aZ,bg,bq,bB,bD,bH,bN,bV,cK,cO,dz,dA,dC⟩
theorem Lu{fp:List Nat}{c:Array Value}{x:(aD d)}(h:Rd.rd fp w c.toList x):
 ∃q0 q1 E H I J K O q T U X Y Z ae s ah B aj ai D au,(q0,q1,(E,H,I,J,K,O,q),(T,U,X,Y,Z,ae,s))=x∧c=#[.string q0,.string q1,.int .i64 E,.int .i64 H,.int .i64 I,.int .i64 J,.string K,.string O,.slice ah q.length B,.int .i64 T,.int .i64 U,.int .i64 X,.int .i64 Y,.string Z,.string ae,.slice ai s.length D]∧True∧q0.size≤maxLen∧q1.size≤maxLen∧(Lit.int .i64 E).wf=true∧(Lit.int .i64 H).wf=true∧(Lit.int .i64 I).wf=true∧(Lit.int .i64 J).wf=true∧K.size≤maxLen∧O.size≤maxLen∧SlR aj w (.slice ah q.length B) q∧q.length≤B∧q.length≤140737488351232∧(Lit.int .i64 T).wf=true∧(Lit.int .i64 U).wf=true∧(Lit.int .i64 X).wf=true∧(Lit.int .i64 Y).wf=true∧Z.size≤maxLen∧ae.size≤maxLen∧SlR au w (.slice ai s.length D) s∧s.length≤D∧s.length≤140737488351232:=by
 obtain⟨q0,q1,⟨E,H,I,J,K,O,q⟩,⟨T,U,X,Y,Z,ae,s⟩⟩:=x;obtain⟨dC,aj,dG,au,rfl,hf,dz,dA,aL,aN,aS,aV,aZ,bg,ax,bq,bB,bD,bH,bK,bL,ay⟩:=bS q0 q1 E H I J K O q T U X Y Z ae s h;obtain⟨ah,B,rfl,bN,bV,-⟩:=ax.open;obtain⟨ai,D,rfl,cK,cO,-⟩:=ay.open;exact⟨_,_,_,_,_,_,_,_,_,_,_,_,_,_,_,_,_,_,_,_,_,_,rfl,rfl,⟨⟩,dz,dA,aL,aN,aS,aV,aZ,bg,ax,bN,bV,bq,bB,bD,bH,bK,bL,ay,cK,cO⟩
theorem KW{f:List Nat}{u:World}{b o n m k:Nat}{xs:List ((aD d))}(h:SlR f w (.slice (some ⟨b,o,none⟩) n m) xs)(hl:k<xs.length)(g:Gr w u):
 ∃q0 q1 E H I J K O q T U X Y Z ae s ah B aj ai D au fe,Ky ((q0,q1,(E,H,I,J,K,O,q),(T,U,X,Y,Z,ae,s))=xs[k])∧Ky (Rd.rd (α:=(aD d)) fe w [.string q0,.string q1,.int .i64 E,.int .i64 H,.int .i64 I,.int .i64 J,.string K,.string O,.slice ah q.length B,.int .i64 T,.int .i64 U,.int .i64 X,.int .i64 Y,.string Z,.string ae,.slice ai s.length D] (q0,q1,(E,H,I,J,K,O,q),(T,U,X,Y,Z,ae,s)))∧q0.size≤maxLen∧q1.size≤maxLen∧(Lit.int .i64 E).wf=true∧(Lit.int .i64 H).wf=true∧(Lit.int .i64 I).wf=true∧(Lit.int .i64 J).wf=true∧K.size≤maxLen∧O.size≤maxLen∧SlR aj w (.slice ah q.length B) q∧q.length≤B∧q.length≤140737488351232∧(Lit.int .i64 T).wf=true∧(Lit.int .i64 U).wf=true∧(Lit.int .i64 X).wf=true∧(Lit.int .i64 Y).wf=true∧Z.size≤maxLen∧ae.size≤maxLen∧SlR au w (.slice ai s.length D) s∧s.length≤D∧s.length≤140737488351232∧u.cell? ⟨b,o+k*16,none⟩=some (.string q0)∧u.cell? ⟨b,o+k*16+1,none⟩=some (.string q1)∧u.cell? ⟨b,o+k*16+2,none⟩=some (.int .i64 E)∧u.cell? ⟨b,o+k*16+3,none⟩=some (.int .i64 H)∧u.cell? ⟨b,o+k*16+4,none⟩=some (.int .i64 I)∧u.cell? ⟨b,o+k*16+5,none⟩=some (.int .i64 J)∧u.cell? ⟨b,o+k*16+6,none⟩=some (.string K)∧u.cell? ⟨b,o+k*16+7,none⟩=some (.string O)∧u.cell? ⟨b,o+k*16+8,none⟩=some (.slice ah q.length B)∧u.cell? ⟨b,o+k*16+9,none⟩=some (.int .i64 T)∧u.cell? ⟨b,o+k*16+10,none⟩=some (.int .i64 U)∧u.cell? ⟨b,o+k*16+11,none⟩=some (.int .i64 X)∧u.cell? ⟨b,o+k*16+12,none⟩=some (.int .i64 Y)∧u.cell? ⟨b,o+k*16+13,none⟩=some (.string Z)∧u.cell? ⟨b,o+k*16+14,none⟩=some (.string ae)∧u.cell? ⟨b,o+k*16+15,none⟩=some (.slice ai s.length D)∧b<u.heap.size:=by
 obtain⟨_,fe,hc,hr⟩:=h.el hl;obtain⟨q0,q1,E,H,I,J,K,O,q,T,U,X,Y,Z,ae,s,ah,B,aj,ai,D,au,hy,rfl,-,dz,dA,ax,ay,aL,aN,aS,aV,aZ,bg,bq,bB,bD,bH,bK,bL,bN,bV,cK,cO⟩:=Lu hr;have z:=g.keep (hc 0 _ rfl);exact⟨_,_,_,_,_,_,_,_,_,_,_,_,_,_,_,_,_,_,_,_,_,_,_,Kz hy,Lt hy hr,dz,dA,ax,ay,aL,aN,aS,aV,aZ,bg,bq,bB,bD,bH,bK,bL,bN,bV,cK,cO,z,g.keep (hc 1 _ rfl),g.keep (hc 2 _ rfl),g.keep (hc 3 _ rfl),g.keep (hc 4 _ rfl),g.keep (hc 5 _ rfl),g.keep (hc 6 _ rfl),g.keep (hc 7 _ rfl),g.keep (hc 8 _ rfl),g.keep (hc 9 _ rfl),g.keep (hc 10 _ rfl),g.keep (hc 11 _ rfl),g.keep (hc 12 _ rfl),g.keep (hc 13 _ rfl),g.keep (hc 14 _ rfl),g.keep (hc 15 _ rfl),blk z⟩
theorem mD(q0:ByteArray)(q1:ByteArray)(h:Int)(q:Int)(s:Int)(B:Int)(D:ByteArray)(E:ByteArray)(ae:List (GE d))(H:Int)(I:Int)(J:Int)(K:Int)(O:ByteArray)(T:ByteArray)(ah:List (GE d)){U:Value}{X:List Nat}{Y:Value}{Z:List Nat}(bH:q0.size≤maxLen)(bK:q1.size≤maxLen)(ai:(Lit.int .i64 h).wf=true)(aj:(Lit.int .i64 q).wf=true)(au:(Lit.int .i64 s).wf=true)(ax:(Lit.int .i64 B).wf=true)(ay:D.size≤maxLen)(aL:E.size≤maxLen)(aN:SlR X w U ae)(aS:(Lit.int .i64 H).wf=true)(aV:(Lit.int .i64 I).wf=true)(aZ:(Lit.int .i64 J).wf=true)(bg:(Lit.int .i64 K).wf=true)(bq:O.size≤maxLen)(bB:T.size≤maxLen)(bD:SlR Z w Y ah):
  Rd.rd (α:=(aD d)) (([]++([]++(([]++([]++([]++([]++([]++([]++X))))))++([]++([]++([]++([]++([]++([]++Z)))))))))) w [.string q0,.string q1,.int .i64 h,.int .i64 q,.int .i64 s,.int .i64 B,.string D,.string E,U,.int .i64 H,.int .i64 I,.int .i64 J,.int .i64 K,.string O,.string T,Y] (q0,q1,(h,q,s,B,D,E,ae),(H,I,J,K,O,T,ah)):=⟨_,_,_,_,rfl,rfl,⟨rfl,rfl,bH⟩,⟨_,_,_,_,rfl,rfl,⟨rfl,rfl,bK⟩,⟨_,_,_,_,rfl,rfl,⟨_,_,_,_,rfl,rfl,⟨rfl,rfl,ai⟩,⟨_,_,_,_,rfl,rfl,⟨rfl,rfl,aj⟩,⟨_,_,_,_,rfl,rfl,⟨rfl,rfl,au⟩,⟨_,_,_,_,rfl,rfl,⟨rfl,rfl,ax⟩,⟨_,_,_,_,rfl,rfl,⟨rfl,rfl,ay⟩,⟨_,_,_,_,rfl,rfl,⟨rfl,rfl,aL⟩,⟨_,rfl,aN⟩⟩⟩⟩⟩⟩⟩,⟨_,_,_,_,rfl,rfl,⟨rfl,rfl,aS⟩,⟨_,_,_,_,rfl,rfl,⟨rfl,rfl,aV⟩,⟨_,_,_,_,rfl,rfl,⟨rfl,rfl,aZ⟩,⟨_,_,_,_,rfl,rfl,⟨rfl,rfl,bg⟩,⟨_,_,_,_,rfl,rfl,⟨rfl,rfl,bq⟩,⟨_,_,_,_,rfl,rfl,⟨rfl,rfl,bB⟩,⟨_,rfl,bD⟩⟩⟩⟩⟩⟩⟩⟩⟩⟩
theorem qB(fp:List Nat)(cs:Array Value)(x:(aD d))(left:Int)(w:World)(hx:Rd.rd fp w cs.toList x)(h0:0≤left)(h1:left≤1048576):
  Qz 182 #[.agg cs,.int .i64 left] w (.int .i64 (less left (aI x))):=by
 obtain⟨q0,q1,⟨h,q,s,B,D,E,H⟩,⟨I,J,K,O,T,U,X⟩⟩:=x;obtain⟨cO,dz,dA,dC,rfl,-,bV,cK,aV,aZ,bg,bq,ah,ai,aj,bB,bD,bH,bK,au,ax,ay⟩:=bS q0 q1 h q s B D E H I J K O T U X hx;have aL:=(bJ h q s B D E H aV aZ bg bq ah ai aj:Rd.rd (α:=(aA d)) _ w _ _);obtain⟨Y,Z⟩:∃y:(aA d),y=(h,q,s,B,D,E,H):=⟨_,rfl⟩;rw[←Z] at aL;have bL:=Kz Z;clear Z;have aN:=(bJ I J K O T U X bB bD bH bK au ax ay:Rd.rd (α:=(aA d)) _ w _ _);obtain⟨y3,ae⟩:∃y:(aA d),y=(I,J,K,O,T,U,X):=⟨_,rfl⟩;rw[←ae] at aN;have bN:=Kz ae;clear ae;unfold maxLen at bV;unfold maxLen at cK;unfold maxLen at ah;unfold maxLen at ai;unfold maxLen at au;unfold maxLen at ax;obtain⟨dG,dL,rfl,dU,dW,-⟩:=aj.open;obtain⟨eH,fe,rfl,fu,fw,-⟩:=ay.open;have aS:aI (q0,q1,(h,q,s,B,D,E,H),(I,J,K,O,T,U,X))=(q0.size)+(q1.size)+(ak Y)+(ak y3):=by rw[bL.o];rw[bN.o];rfl
 have HW:=Kz aS;clear aS hx;delta Qz;go_in;go_wp2_with fail
 ·go_ret
  refine⟨aC ?_,gd⟩;have:=aH left (aI (q0,q1,(h,q,s,B,D,E,H),(I,J,K,O,T,U,X)));have:=HW.o;omega
 ·go_ret
  refine⟨aC ?_,gd⟩;have:=aH left (aI (q0,q1,(h,q,s,B,D,E,H),(I,J,K,O,T,U,X)));have:=HW.o;omega
 ·skip
  refine(qx _ _ Y _ _ (Rd.gr aL gd) (by omega) (by omega)).mono ?_;rintro e w2 ⟨rfl,x2,rfl⟩;have fA:=fD (left - ↑q0.size - ↑q1.size) (ak Y) (by omega);go_wp2_with fail
  ·go_ret
   refine⟨aC ?_,gd⟩;have:=aH left (aI (q0,q1,(h,q,s,B,D,E,H),(I,J,K,O,T,U,X)));have:=HW.o;have:=aH (left - ↑q0.size - ↑q1.size) (ak Y);omega
  ·skip
   refine(qx _ _ y3 _ _ (Rd.gr aN gd) (by have:=aH (left - ↑q0.size - ↑q1.size) (ak Y);omega) (by have:=aH (left - ↑q0.size - ↑q1.size) (ak Y);omega)).mono ?_;rintro e w3 ⟨rfl,x3,rfl⟩;have fK:=fD (less (left - ↑q0.size - ↑q1.size) (ak Y)) (ak y3) (by have:=aH (left - ↑q0.size - ↑q1.size) (ak Y);omega);go_wp2_with fail
   ·go_ret
    refine⟨aC ?_,gd⟩;have:=aH left (aI (q0,q1,(h,q,s,B,D,E,H),(I,J,K,O,T,U,X)));have:=HW.o;have:=aH (left - ↑q0.size - ↑q1.size) (ak Y);have:=aH (less (left - ↑q0.size - ↑q1.size) (ak Y)) (ak y3);omega
   ·skip
    go_ret;refine⟨aC ?_,gd⟩;have:=aH left (aI (q0,q1,(h,q,s,B,D,E,H),(I,J,K,O,T,U,X)));have:=HW.o;have:=aH (left - ↑q0.size - ↑q1.size) (ak Y);have:=aH (less (left - ↑q0.size - ↑q1.size) (ak Y)) (ak y3);omega
theorem tu(q0:ByteArray)(q1:ByteArray)(h:Int)(q:Int)(s:Int)(B:Int)(D:ByteArray)(E:ByteArray)(H:List (GE d))(I:Int)(J:Int)(K:Int)(O:Int)(T:ByteArray)(U:ByteArray)(X:List (GE d))(p0:ByteArray)(p1:ByteArray)(Y:Int)(Z:Int)(ae:Int)(ah:Int)(ai:ByteArray)(aj:ByteArray)(au:List (GE d))(ax:Int)(ay:Int)(aL:Int)(aN:Int)(aS:ByteArray)(aV:ByteArray)(aZ:List (GE d))(e0:q0=p0)(e1:q1=p1)(e2:(h,q,s,B,D,E,H)=(Y,Z,ae,ah,ai,aj,au))(e3:(I,J,K,O,T,U,X)=(ax,ay,aL,aN,aS,aV,aZ)):((q0,q1,(h,q,s,B,D,E,H),(I,J,K,O,T,U,X)):(aD d))=(p0,p1,(Y,Z,ae,ah,ai,aj,au),(ax,ay,aL,aN,aS,aV,aZ)):=by
 exact Prod.ext_iff.2 ⟨e0,Prod.ext_iff.2 ⟨e1,Prod.ext_iff.2 ⟨e2,e3⟩⟩⟩
theorem qK(fp fq:List Nat)(cs ds:Array Value)(x y:(aD d))(w:World)(hx:Rd.rd fp w cs.toList x)(hy:Rd.rd fq w ds.toList y):
  Qz 215 #[.agg cs,.agg ds] w (.bool (decide (x=y))):=by
 obtain⟨q0,q1,⟨E,H,I,J,K,O,T⟩,⟨U,X,Y,Z,ae,ah,ai⟩⟩:=x;obtain⟨p0,p1,⟨aj,au,ax,ay,aL,aN,aS⟩,⟨aV,aZ,bg,bq,bB,bD,bH⟩⟩:=y;obtain⟨kL,kQ,kS,kT,rfl,-,mh,mo,dW,eH,fe,fu,fw,fA,bK,fK,gm,gB,gD,gF,gH,bL⟩:=bS q0 q1 E H I J K O T U X Y Z ae ah ai hx;obtain⟨kV,kX,kZ,lq,rfl,-,mq,mr,gM,gT,ik,iw,jN,jX,bN,j4,j5,ku,ky,kz,kE,bV⟩:=bS p0 p1 aj au ax ay aL aN aS aV aZ bg bq bB bD bH hy;have cK:=(bJ E H I J K O T dW eH fe fu fw fA bK:Rd.rd (α:=(aA d)) _ w _ _);obtain⟨y2,h⟩:∃y:(aA d),y=(E,H,I,J,K,O,T):=⟨_,rfl⟩;rw[←h] at cK;have cO:=Kz h;clear h;have dz:=(bJ U X Y Z ae ah ai fK gm gB gD gF gH bL:Rd.rd (α:=(aA d)) _ w _ _);obtain⟨y3,q⟩:∃y:(aA d),y=(U,X,Y,Z,ae,ah,ai):=⟨_,rfl⟩;rw[←q] at dz;have dA:=Kz q;clear q;have dC:=(bJ aj au ax ay aL aN aS gM gT ik iw jN jX bN:Rd.rd (α:=(aA d)) _ w _ _);obtain⟨z2,s⟩:∃y:(aA d),y=(aj,au,ax,ay,aL,aN,aS):=⟨_,rfl⟩;rw[←s] at dC;have dG:=Kz s;clear s;have dL:=(bJ aV aZ bg bq bB bD bH j4 j5 ku ky kz kE bV:Rd.rd (α:=(aA d)) _ w _ _);obtain⟨z3,B⟩:∃y:(aA d),y=(aV,aZ,bg,bq,bB,bD,bH):=⟨_,rfl⟩;rw[←B] at dL;have dU:=Kz B;clear B;obtain⟨lG,lV,rfl,-,-,-⟩:=bK.open;obtain⟨l5,l6,rfl,-,-,-⟩:=bL.open;obtain⟨l7,l8,rfl,-,-,-⟩:=bN.open;obtain⟨ma,mf,rfl,-,-,-⟩:=bV.open;clear hx hy;delta Qz;go_in;go_wp2_with fail
 ·have D:(!q0.toList==p0.toList)=true:=by assumption
  go_ret;exact⟨aa (decide_eq_false fun e=>lg D (congrArg (fun z:(aD d)=>z.1) e)).symm,gd⟩
 ·have D:(!q1.toList==p1.toList)=true:=by assumption
  go_ret;exact⟨aa (decide_eq_false fun e=>lg D (congrArg (fun z:(aD d)=>z.2.1) e)).symm,gd⟩
 ·skip
  have e0:=Kz (str_eq (show(!q0.toList==p0.toList)=false by assumption));have e1:=Kz (str_eq (show(!q1.toList==p1.toList)=false by assumption));refine(qI _ _ _ _ y2 z2 _ (Rd.gr cK gd) (Rd.gr dC gd)).mono ?_;rintro e w2 ⟨rfl,x2,rfl⟩;go_wp2_with fail
  ·have D:(!decide (y2=z2))=true:=by assumption
   go_ret;exact⟨aa (decide_eq_false fun e=>iy D (cO.o.trans ((congrArg (fun z:(aD d)=>z.2.2.1) e).trans dG.o.symm))).symm,gd⟩
  ·skip
   have e2:=Kz (iq (show(!decide (y2=z2))=false by assumption));refine(qI _ _ _ _ y3 z3 _ (Rd.gr dz gd) (Rd.gr dL gd)).mono ?_;rintro e w3 ⟨rfl,x3,rfl⟩;go_wp2_with fail
   ·have D:(!decide (y3=z3))=true:=by assumption
    go_ret;exact⟨aa (decide_eq_false fun e=>iy D (dA.o.trans ((congrArg (fun z:(aD d)=>z.2.2.2) e).trans dU.o.symm))).symm,gd⟩
   ·skip
    have e3:=Kz (iq (show(!decide (y3=z3))=false by assumption));go_ret;exact⟨aa (decide_eq_true (tu q0 q1 E H I J K O T U X Y Z ae ah ai p0 p1 aj au ax ay aL aN aS aV aZ bg bq bB bD bH e0.o e1.o (cO.o.symm.trans (e2.o.trans dG.o)) (dA.o.symm.trans (e3.o.trans dU.o)))).symm,gd⟩
theorem LF(fp:List Nat)(cs:Array Value)(x:(aD d))(w:World)(hx:Rd.rd fp w cs.toList x)(hl:aI x≤1048576):
  Calls Tryz.prog 198 #[.agg cs] w fun e w'=>∃ds fq,e=.returned (.agg ds)∧Rd.rd fq w' ds.toList x∧aY w fq∧Gr w w':=by
 obtain⟨q0,q1,⟨h,q,s,B,D,E,H⟩,⟨I,J,K,O,T,U,X⟩⟩:=x;obtain⟨fA,fK,gm,gB,rfl,-,fu,fw,ah,ai,aj,au,ax,ay,aL,aN,aS,aV,aZ,bg,bq,bB⟩:=bS q0 q1 h q s B D E H I J K O T U X hx;have bD:=(bJ h q s B D E H ah ai aj au ax ay aL:Rd.rd (α:=(aA d)) _ w _ _);obtain⟨y2,Y⟩:∃y:(aA d),y=(h,q,s,B,D,E,H):=⟨_,rfl⟩;rw[←Y] at bD;have bH:=Kz Y;clear Y;have bK:=(bJ I J K O T U X aN aS aV aZ bg bq bB:Rd.rd (α:=(aA d)) _ w _ _);obtain⟨y3,Z⟩:∃y:(aA d),y=(I,J,K,O,T,U,X):=⟨_,rfl⟩;rw[←Z] at bK;have bL:=Kz Z;clear Z;obtain⟨gD,gF,rfl,-,-,-⟩:=aL.open;obtain⟨gH,gM,rfl,-,-,-⟩:=bB.open;have dL:aI (q0,q1,(h,q,s,B,D,E,H),(I,J,K,O,T,U,X))=(q0.size)+(q1.size)+(ak y2)+(ak y3):=by rw[bH.o];rw[bL.o];rfl
 have HW:=Kz dL;clear dL hx;go_in;go_wp2_with fail;refine(qF _ _ y2 _ (Rd.gr bD gd) (by have:=HW.o;omega)).mono ?_;rintro e w2 ⟨iw,g2,rfl,s2,bN,x2,rfl⟩;rw[bH.o] at s2;obtain⟨gT,eH,rfl,dU,-,-,-,-,-,-,ae⟩:=aF h q s B D E H s2;rw[dU] at bN;clear dU;obtain⟨dz,dA,rfl,-,-,-⟩:=ae.open;go_wp2_with fail;refine(qF _ _ y3 _ (Rd.gr bK gd) (by have:=HW.o;omega)).mono ?_;rintro e w3 ⟨jN,g3,rfl,s3,bV,x3,rfl⟩;rw[bL.o] at s3;obtain⟨ik,fe,rfl,dW,-,-,-,-,-,-,cK⟩:=aF I J K O T U X s3;rw[dW] at bV;clear dW;obtain⟨dC,dG,rfl,-,-,-⟩:=cK.open;go_wp2_with fail
 have cO:aY w (eH++fe):=by
  exact(aY.app (aY.of_le bN (by simp<;>omega)) (SlR.lt ae) bV (by simp<;>omega) (by simp<;>omega))
 exact bodyPost_ret (v:=.agg #[.string q0,.string q1,.int .i64 h,.int .i64 q,.int .i64 s,.int .i64 B,.string D,.string E,.slice dz H.length dA,.int .i64 I,.int .i64 J,.int .i64 K,.int .i64 O,.string T,.string U,.slice dC X.length dG]) (by simp[results,Tryz.results198,go_sem]) rfl
  ⟨_,_,rfl,mD q0 q1 h q s B D E H I J K O T U X fu fw ah ai aj au ax ay (SlR.moved ae bN gd (by simp)) aN aS aV aZ bg bq (SlR.moved cK bV gd (by simp)),cO,gd⟩
def df(xs:List (aD d)):Nat:=wtL aI xs
theorem pJ(fp:List Nat)(u:Value)(xs:List (aD d))(left:Int)(w:World)(hu:SlR fp w u xs)(Y:0≤left)(h1:left≤1048576):
  Qz 118 #[u,.int .i64 left] w (.int .i64 (less left (df xs))):=by
 obtain⟨a,ca,rfl,g1,g2,J⟩:=hu.open
 by_cases E:left - xs.length<0
 ·have hle:less left (df xs)= -1:=by unfold less df wtL;rw[if_pos (by omega)]
  have Z:=Kz hle;clear hle;delta Qz;go_in
  go_wp2
  go_ret;exact⟨aC Z.o.symm,Gr.refl w⟩
 ·have D:less left xs.length=left - xs.length:=by unfold less;rw[if_neg E]
  have K:=Kz D;clear D;delta Qz;go_in
  go_wp2
  go_loopw [5,1] (fun H s1 wr=>∃(k:Nat) (m:Int),k≤xs.length∧0≤m∧m≤1048576∧Ky (m=less left (xs.length+((xs.take k).map aI).sum))∧Gr w wr∧H=.int .i64 k∧s1=.int .i64 m) (fun H _ _=>xs.length - (intOf H).toNat)
  case atStart=>exact⟨0,_,by omega,by omega,by omega,Kz (by simp[K.o]),Gr.refl w,rfl,rfl⟩
  case round=>
   obtain⟨k,m,hk,bV,cK,hm,⟨x,rfl⟩,rfl,rfl⟩:=hrel
   by_cases h:k<xs.length
   ·obtain⟨b,off,rfl,hb⟩:=J k h
    have q:=Kz (eZ aI xs k h);obtain⟨q0,q1,cO,dz,dA,dC,dG,dL,dU,dW,eH,fe,fu,fw,fA,fK,ae,ah,ai,aj,au,ax,gm,O,T,gB,gD,ay,aL,aN,aS,aV,aZ,bg,-,-,bq,bB,bD,bH,bK,bL,bN,-,-,z0,z1,z2,z3,z4,z5,z6,z7,z8,z9,gF,gH,gM,gT,ik,iw,-⟩:=KW hu h (Gr.refl _);have I:=Lb O T;have X:=fD m (aI xs[k]) (by omega);clear J
    go_wp2_with (go_at_call 182;refine(qB _ _ xs[k] _ _ (Rd.gr I ((Gr.refl w).ext _)) (by omega) (by omega)).mono ?_;rintro e w1 ⟨rfl,y,rfl⟩)
    ·have B:less m (aI xs[k])<0:=by assumption
     go_ret;refine⟨aC ?_,gd⟩;have e:=hm.o;subst e;rw[fE,Nat.add_assoc,←q.o] at B;exact(jV B (Nat.add_le_add_left (gJ aI xs (k+1)) _) Y).symm
    ·have B:0≤less m (aI xs[k]):=by assumption
     refine⟨⟨k+1,_,by omega,B,by omega,Kz ?_,gd,by go_num,rfl⟩,by simp[intOf];omega⟩;rw[q.o,hm.o,fE,Nat.add_assoc]
   ·have U:k=xs.length:=by omega
    subst U;have s:=hm.o;rw[take_length] at s;have HM:=Kz s;clear s hm
    go_wp2
    go_ret;exact⟨aC HM.o,gd⟩
theorem pU(fp fq:List Nat)(u v:Value)(xs q:List (aD d))(w:World)(hu:SlR fp w u xs)(T:SlR fq w v q):
  Qz 154 #[u,v] w (.bool (decide (xs=q))):=by
 obtain⟨a,ca,rfl,h1,h2,U⟩:=hu.open;obtain⟨c,cc,rfl,g1,g2,X⟩:=T.open
 by_cases D:xs.length=q.length
 ·have I:=Kz D
  have Y:((xs.length:Int)!=(q.length:Int))=false:=by simp[D]
  clear D;delta Qz;go_in
  go_wp2
  go_loopw [5] (fun J wr=>∃k:Nat,k≤xs.length∧xs.take k=q.take k∧Gr w wr∧J=.int .i64 k) (fun J _=>xs.length - (intOf J).toNat)
  case atStart=>exact⟨0,by omega,rfl,Gr.refl w,rfl⟩
  case round=>
   obtain⟨k,hk,s,⟨x,rfl⟩,rfl⟩:=hrel
   by_cases H:k<xs.length
   ·have B:k<q.length:=by have:=I.o;omega
    obtain⟨b,off,rfl,hb⟩:=U k H;obtain⟨b',au,rfl,kz⟩:=X k B;obtain⟨q0,q1,kE,kL,kQ,kS,kT,kV,kX,kZ,lq,lG,lV,l5,l6,l7,ax,ay,aL,aN,aS,aV,l8,Z,ae,ma,mf,aZ,bg,bq,bB,bD,bH,bK,-,-,bL,bN,bV,cK,cO,dz,dA,-,-,z0,z1,z2,z3,z4,z5,z6,z7,z8,z9,mh,mo,mq,mr,mH,mZ,-⟩:=KW hu H (Gr.refl _);have K:=Lb Z ae;obtain⟨p0,p1,nz,nM,nO,nP,nS,nZ,oh,oo,oq,ow,oz,oG,oH,oK,dC,dG,dL,dU,dW,eH,oL,ah,ai,oN,oV,fe,fu,fw,fA,fK,gm,gB,-,-,gD,gF,gH,gM,gT,ik,iw,-,-,oW,o9,pG,pM,pR,pV,p9,qo,qD,qE,jN,jX,j4,j5,ku,ky,-⟩:=KW T B (Gr.refl _);have O:=Lb ah ai;have hT:=Kz s;clear U X s;go_wp2_with fail;refine wg ?_
    repeat(go_big_quiet_step ((go_at_call 215;refine aG (qK _ _ _ _ xs[k] q[k] _ (Rd.gr K ?_) (Rd.gr O ?_))<;>exact((Gr.refl w).ext _).ext _)))
    refine wq fun nx=>?_
    go_wp2
    ·have s:(!decide (xs[k]=q[k]))=true:=by assumption
     go_ret;have E:xs≠q:=fun e=>iy s (by subst e;rfl)
     exact⟨aa (decide_eq_false E).symm,gd⟩
    ·have s:(!decide (xs[k]=q[k]))=false:=by assumption
     have e2:=iq s;refine⟨⟨k+1,by omega,?_,gd,by go_num⟩,by simp[intOf];omega⟩;rw[List.take_succ_eq_append_getElem H,List.take_succ_eq_append_getElem B,hT.o,e2]
   ·have aj:k=xs.length:=by omega
    subst aj
    have e:xs=q:=by
     have h:=s;have h':=I.o;rw[take_length,h',take_length] at h;exact h
    have E:=Kz e;clear e s
    go_wp2
    go_ret;exact⟨aa (decide_eq_true E.o).symm,gd⟩
 ·have Y:((xs.length:Int)!=(q.length:Int))=true:=by simp;omega
  have e:xs≠q:=fun e=>D (by rw[e])
  have E:=Kz e;clear e D;delta Qz;go_in
  go_wp2
  go_ret;exact⟨aa (decide_eq_false E.o).symm,Gr.refl w⟩
theorem Tryz.sS:(Tryz.prog.info? 213).map (fun i=>(i.zero,i.size,i.bytes))=some (some (.agg #[.string ByteArray.empty,.string ByteArray.empty,.int .i64 0,.int .i64 0,.int .i64 0,.int .i64 0,.string ByteArray.empty,.string ByteArray.empty,.slice none 0 0,.int .i64 0,.int .i64 0,.int .i64 0,.int .i64 0,.string ByteArray.empty,.string ByteArray.empty,.slice none 0 0]),16,208):=by kernel_rfl
theorem pQ(fp:List Nat)(u:Value)(xs:List (aD d))(w:World)(hu:SlR fp w u xs)(hlen:df xs≤1048576):
  Calls Tryz.prog 133 #[u] w fun e w'=>∃v fq,e=.returned v∧SlR fq w' v xs∧aY w fq∧Gr w w':=by
 obtain⟨a,ca,rfl,h1,h2,h3⟩:=hu.open;have kT:xs.length≤1048576:=Nat.le_trans (bT aI xs) hlen;obtain⟨i0,hi,ax,ay,aL⟩:=info_parts Tryz.sS;have aj:=fun(W:World)=>run_make (P:=Tryz.prog) W 110 213 i0 (.agg #[.string ByteArray.empty,.string ByteArray.empty,.int .i64 0,.int .i64 0,.int .i64 0,.int .i64 0,.string ByteArray.empty,.string ByteArray.empty,.slice none 0 0,.int .i64 0,.int .i64 0,.int .i64 0,.int .i64 0,.string ByteArray.empty,.string ByteArray.empty,.slice none 0 0]) Tryz.underlying110 hi ax .i64 .i64 xs.length xs.length (by omega) (by omega) (by rw[aL];omega) (by omega)
 rw[ay] at aj;clear hi ax ay aL;simp only[Int.toNat_natCast] at aj;have au:=size_madeCells (Value.agg #[.string ByteArray.empty,.string ByteArray.empty,.int .i64 0,.int .i64 0,.int .i64 0,.int .i64 0,.string ByteArray.empty,.string ByteArray.empty,.slice none 0 0,.int .i64 0,.int .i64 0,.int .i64 0,.int .i64 0,.string ByteArray.empty,.string ByteArray.empty,.slice none 0 0]).cells (xs.length*16);generalize madeCells (Value.agg #[.string ByteArray.empty,.string ByteArray.empty,.int .i64 0,.int .i64 0,.int .i64 0,.int .i64 0,.string ByteArray.empty,.string ByteArray.empty,.slice none 0 0,.int .i64 0,.int .i64 0,.int .i64 0,.int .i64 0,.string ByteArray.empty,.string ByteArray.empty,.slice none 0 0]).cells (xs.length*16)=C0 at aj au;have HS:=Kz au;have bB:=Kz hlen;clear au hlen;go_in
 go_wp2
 go_loopw [4] (fun s4 wr=>∃(k:Nat) (C:Array Value) (x:Ext) (fps:List (List Nat)),C.size=xs.length*16∧iF w w.heap.size wr C k fps xs∧wr=(w.alloc (.cells C 213)).ext x∧s4=.int .i64 k) (fun s4 _=>xs.length - (intOf s4).toNat)
 case atStart=>exact⟨0,C0,⟨#[],0⟩,[],HS.o,iF.start _ _ (Nat.le_refl _) (by simp),(lX _).symm,rfl⟩
 case round=>
  obtain⟨k,C,x,fps,hC,hp,rfl,rfl⟩:=hrel;have bD:=Kz hC;have hk:=hp.le
  by_cases D:k<xs.length
  ·obtain⟨b,off,rfl,hb⟩:=h3 k D
   have aN:=dI aI xs D;obtain⟨q0,q1,kV,kX,kZ,lq,lG,lV,l5,l6,l7,l8,ma,mf,mh,mo,bV,cK,cO,dz,dA,dC,mq,bH,bK,mr,mH,dG,dL,dU,dW,eH,fe,fu,-,-,fw,fA,fK,gm,gB,gD,gF,-,-,z0,z1,z2,z3,z4,z5,z6,z7,z8,z9,mZ,nz,nM,nO,nP,nS,-⟩:=KW hu D (Gr.refl _);have aZ:=Lb bH bK;have y0:k*16<C.size:=by omega
   have y1:k*16+1<C.size:=by omega
   have y2:k*16+2<C.size:=by omega
   have y3:k*16+3<C.size:=by omega
   have y4:k*16+4<C.size:=by omega
   have y5:k*16+5<C.size:=by omega
   have y6:k*16+6<C.size:=by omega
   have y7:k*16+7<C.size:=by omega
   have y8:k*16+8<C.size:=by omega
   have y9:k*16+9<C.size:=by omega
   have nZ:k*16+10<C.size:=by omega
   have oh:k*16+11<C.size:=by omega
   have oo:k*16+12<C.size:=by omega
   have oq:k*16+13<C.size:=by omega
   have ow:k*16+14<C.size:=by omega
   have oz:k*16+15<C.size:=by omega
   have oG:aI xs[k]≤1048576:=Nat.le_trans aN bB.o;have aS:k*16+16≤C.size:=by omega
   have HD:=Kz aS;clear hC h3 aN aS
   go_wp2_with (go_at_call 198;refine(LF _ _ xs[k] _ (Rd.gr aZ gd) (by omega)).mono ?_;rintro e w1 ⟨ds,fq,rfl,hs,hf,y,rfl⟩;have aV:=hs;generalize xs[k]=yr at aV;obtain⟨r0,r1,⟨E,H,I,J,K,O,T⟩,⟨U,X,Y,Z,ae,ah,ai⟩⟩:=yr;obtain⟨gH,gM,gT,ik,rfl,bL,oH,oK,iw,jN,jX,j4,j5,ku,bg,ky,kz,kE,kL,kQ,kS,bq⟩:=bS r0 r1 E H I J K O T U X Y Z ae ah ai aV;obtain⟨h,q,rfl,-,-,-⟩:=bg.open;obtain⟨s,B,rfl,-,-,-⟩:=bq.open;clear bL)
   rw[iV,←Fv];refine⟨⟨k+1,setRow C (k*16) [.string r0,.string r1,.int .i64 E,.int .i64 H,.int .i64 I,.int .i64 J,.string K,.string O,.slice h T.length q,.int .i64 U,.int .i64 X,.int .i64 Y,.int .i64 Z,.string ae,.string ah,.slice s ai.length B],x.comp y,fps++[fq],?_,?_,rfl,by go_num⟩,by simp[intOf];omega⟩
   ·rw[setRow_size];exact bD.o
   ·refine hp.lT D (C':=setRow C (k*16) [.string r0,.string r1,.int .i64 E,.int .i64 H,.int .i64 I,.int .i64 J,.string K,.string O,.slice h T.length q,.int .i64 U,.int .i64 X,.int .i64 Y,.int .i64 Z,.string ae,.string ah,.slice s ai.length B]) (cs:=[.string r0,.string r1,.int .i64 E,.int .i64 H,.int .i64 I,.int .i64 J,.string K,.string O,.slice h T.length q,.int .i64 U,.int .i64 X,.int .i64 Y,.int .i64 Z,.string ae,.string ah,.slice s ai.length B]) ?_ hf (fun j hj=>jW _ _ _ _ hj) (jS _ _ _ HD.o)
    exact hs
  ·have bN:k=xs.length:=by omega
   subst bN;obtain⟨fq,hs,hf⟩:=hp.done (iD _ x) (cap:=xs.length) (Nat.le_refl _) (by unfold bn;omega);have HF:=Kz hs;clear hs hC
   go_wp2
   go_ret;exact⟨_,fq,rfl,HF.o,hf,gd⟩
end Go.Proofs.YtdhighcpmcdmmaaGreat
