/- Contracts and laws towards ReadsOf, part 12 of 54. No condition. -/
import Derived.Test.YtdhighcpmcdmmaaGreatFx08
import Derived.Test.YtdhighcpmcdmmaaGreatFx10
set_option maxHeartbeats 32000000
set_option maxRecDepth 10000
set_option linter.unusedVariables false
set_option linter.unusedSimpArgs false
namespace Go.Proofs.YtdhighcpmcdmmaaGreat
open Go.RowKit
open _root_.List (take_length)
open _root_.Nat (le_refl le_trans)
variable{d:Nat}
variable{w:World}{fp:List Nat}{cs:Array Value}{t:List aT}{sym:ByteArray}
abbrev aW(d:Nat):=ByteArray×ByteArray×List ByteArray×Bool×List (aX d)×List (aD d)
def bF(x:(aW d)):Nat:=x.1.size+x.2.1.size+cu x.2.2.1+cz x.2.2.2.2.1+df x.2.2.2.2.2
instance decRule:DecidableEq (aW d):=@instDecidableEqProd _ _ _ (@instDecidableEqProd _ _ _ (@instDecidableEqProd _ _ _ (@instDecidableEqProd _ _ _ (@instDecidableEqProd _ _ _ (inferInstance)))))
theorem aM(q0:ByteArray)(q1:ByteArray)(q2:List ByteArray)(q3:Bool)(q4:List (aX d))(q5:List (aD d))(h:Rd.rd (α:=(aW d)) fp w cs.toList (q0,q1,q2,q3,q4,q5)):
  ∃q D s E B H,cs=#[.string q0,.string q1,q,.bool q3,s,B]∧fp=([]++([]++(D++([]++(E++H)))))∧q0.size≤maxLen∧q1.size≤maxLen∧SlR D w q q2∧SlR E w s q4∧SlR H w B q5:=by
 generalize I:cs.toList=l at h;obtain⟨_,_,_,_,rfl,rfl,⟨rfl,rfl,J⟩,⟨_,_,_,_,rfl,rfl,⟨rfl,rfl,K⟩,⟨_,_,_,_,rfl,rfl,⟨q,rfl,O⟩,⟨_,_,_,_,rfl,rfl,⟨rfl,rfl⟩,⟨_,_,_,_,rfl,rfl,⟨s,rfl,T⟩,⟨B,rfl,U⟩⟩⟩⟩⟩⟩:=h;exact⟨_,_,_,_,_,_,Array.toList_inj.1 (by simpa using I),rfl,J,K,O,T,U⟩
theorem KV{c:Array Value}{x:(aW d)}(h:Rd.rd fp w c.toList x):
 ∃q0 q1 q2 q3 q4 q5 D q I E s J H B K,(q0,q1,q2,q3,q4,q5)=x∧c=#[.string q0,.string q1,.slice D q2.length q,.bool q3,.slice E q4.length s,.slice H q5.length B]∧True∧q0.size≤maxLen∧q1.size≤maxLen∧SlR I w (.slice D q2.length q) q2∧q2.length≤q∧q2.length≤140737488351232∧SlR J w (.slice E q4.length s) q4∧q4.length≤s∧q4.length≤140737488351232∧SlR K w (.slice H q5.length B) q5∧q5.length≤B∧q5.length≤140737488351232:=by
 obtain⟨q0,q1,q2,q3,q4,q5⟩:=x;obtain⟨ax,I,ay,J,aL,K,rfl,hf,X,Y,O,T,U⟩:=aM q0 q1 q2 q3 q4 q5 h;obtain⟨D,q,rfl,Z,ae,-⟩:=O.open;obtain⟨E,s,rfl,ah,ai,-⟩:=T.open;obtain⟨H,B,rfl,aj,au,-⟩:=U.open;exact⟨_,_,_,_,_,_,_,_,_,_,_,_,_,_,_,rfl,rfl,⟨⟩,X,Y,O,Z,ae,T,ah,ai,U,aj,au⟩
theorem Lf{f:List Nat}{u:World}{b o n m k:Nat}{xs:List ((aW d))}(h:SlR f w (.slice (some ⟨b,o,none⟩) n m) xs)(hl:k<xs.length)(g:Gr w u):
 ∃q0 q1 q2 q3 q4 q5 D q I E s J H B K O,Ky ((q0,q1,q2,q3,q4,q5)=xs[k])∧Ky (Rd.rd (α:=(aW d)) O w [.string q0,.string q1,.slice D q2.length q,.bool q3,.slice E q4.length s,.slice H q5.length B] (q0,q1,q2,q3,q4,q5))∧q0.size≤maxLen∧q1.size≤maxLen∧SlR I w (.slice D q2.length q) q2∧q2.length≤q∧q2.length≤140737488351232∧SlR J w (.slice E q4.length s) q4∧q4.length≤s∧q4.length≤140737488351232∧SlR K w (.slice H q5.length B) q5∧q5.length≤B∧q5.length≤140737488351232∧u.cell? ⟨b,o+k*6,none⟩=some (.string q0)∧u.cell? ⟨b,o+k*6+1,none⟩=some (.string q1)∧u.cell? ⟨b,o+k*6+2,none⟩=some (.slice D q2.length q)∧u.cell? ⟨b,o+k*6+3,none⟩=some (.bool q3)∧u.cell? ⟨b,o+k*6+4,none⟩=some (.slice E q4.length s)∧u.cell? ⟨b,o+k*6+5,none⟩=some (.slice H q5.length B)∧b<u.heap.size:=by
 obtain⟨_,O,hc,T⟩:=h.el hl;obtain⟨q0,q1,q2,q3,q4,q5,D,q,I,E,s,J,H,B,K,U,rfl,-,X,Y,Z,ae,ah,ai,aj,au,ax,ay,aL⟩:=KV T;have z:=g.keep (hc 0 _ rfl);exact⟨_,_,_,_,_,_,_,_,_,_,_,_,_,_,_,_,Kz U,Lt U T,X,Y,Z,ae,ah,ai,aj,au,ax,ay,aL,z,g.keep (hc 1 _ rfl),g.keep (hc 2 _ rfl),g.keep (hc 3 _ rfl),g.keep (hc 4 _ rfl),g.keep (hc 5 _ rfl),blk z⟩
theorem AX{x:(aW d)}(h:Rd.rd (α:=(aW d)) fp w cs.toList x):
  ∃q0 q1 q I s q3 B J D E K H,cs=#[.string q0,.string q1,.slice q I s,.bool q3,.slice B J D,.slice E K H]:=by
 obtain⟨q0,q1,q2,q3,q4,q5⟩:=x;obtain⟨X,Y,Z,ae,ah,ai,rfl,-,-,-,O,T,U⟩:=aM q0 q1 q2 q3 q4 q5 h;obtain⟨q,s,rfl,-,-,-⟩:=O.open;obtain⟨B,D,rfl,-,-,-⟩:=T.open;obtain⟨E,H,rfl,-,-,-⟩:=U.open;exact⟨_,_,_,_,_,_,_,_,_,_,_,_,rfl⟩
theorem pI(q0:ByteArray)(q1:ByteArray)(q2:List ByteArray)(q3:Bool)(q4:List (aX d))(q5:List (aD d)){h:Value}{q:List Nat}{s:Value}{B:List Nat}{D:Value}{E:List Nat}(H:q0.size≤maxLen)(I:q1.size≤maxLen)(J:SlR q w h q2)(K:SlR B w s q4)(O:SlR E w D q5):
  Rd.rd (α:=(aW d)) (([]++([]++(q++([]++(B++E)))))) w [.string q0,.string q1,h,.bool q3,s,D] (q0,q1,q2,q3,q4,q5):=⟨_,_,_,_,rfl,rfl,⟨rfl,rfl,H⟩,⟨_,_,_,_,rfl,rfl,⟨rfl,rfl,I⟩,⟨_,_,_,_,rfl,rfl,⟨_,rfl,J⟩,⟨_,_,_,_,rfl,rfl,⟨rfl,rfl⟩,⟨_,_,_,_,rfl,rfl,⟨_,rfl,K⟩,⟨_,rfl,O⟩⟩⟩⟩⟩⟩
theorem DC(fp:List Nat)(cs:Array Value)(x:(aW d))(left:Int)(w:World)(E:Rd.rd fp w cs.toList x)(h0:0≤left)(h1:left≤1048576):
  Qz 57 #[.agg cs,.int .i64 left] w (.int .i64 (less left (bF x))):=by
 obtain⟨q0,q1,q2,q3,q4,q5⟩:=x;obtain⟨T,H,U,I,X,J,rfl,-,K,O,q,s,B⟩:=aM q0 q1 q2 q3 q4 q5 E;unfold maxLen at K;unfold maxLen at O;obtain⟨Y,Z,rfl,ae,ah,-⟩:=q.open;obtain⟨ai,aj,rfl,au,ax,-⟩:=s.open;obtain⟨ay,aL,rfl,aN,aS,-⟩:=B.open;have D:bF (q0,q1,q2,q3,q4,q5)=(q0.size)+(q1.size)+(cu q2)+(cz q4)+(df q5):=by rfl
 have h:=Kz D;clear D E;delta Qz;go_in;go_wp2_with fail
 ·go_ret
  refine⟨aC ?_,gd⟩;have:=aH left (bF (q0,q1,q2,q3,q4,q5));have:=h.o;omega
 ·go_ret
  refine⟨aC ?_,gd⟩;have:=aH left (bF (q0,q1,q2,q3,q4,q5));have:=h.o;omega
 ·skip
  refine(yE H _ _ _ _ (q.gr gd) (by omega) (by omega)).mono ?_;rintro e w2 ⟨rfl,x2,rfl⟩;have aV:=fD (left - ↑q0.size - ↑q1.size) (cu q2) (by omega);go_wp2_with fail
  ·go_ret
   refine⟨aC ?_,gd⟩;have:=aH left (bF (q0,q1,q2,q3,q4,q5));have:=h.o;have:=aH (left - ↑q0.size - ↑q1.size) (cu q2);omega
  ·skip
   refine(vw I _ _ _ _ (s.gr gd) (by have:=aH (left - ↑q0.size - ↑q1.size) (cu q2);omega) (by have:=aH (left - ↑q0.size - ↑q1.size) (cu q2);omega)).mono ?_;rintro e w4 ⟨rfl,x4,rfl⟩;have aZ:=fD (less (left - ↑q0.size - ↑q1.size) (cu q2)) (cz q4) (by have:=aH (left - ↑q0.size - ↑q1.size) (cu q2);omega);go_wp2_with fail
   ·go_ret
    refine⟨aC ?_,gd⟩;have:=aH left (bF (q0,q1,q2,q3,q4,q5));have:=h.o;have:=aH (left - ↑q0.size - ↑q1.size) (cu q2);have:=aH (less (left - ↑q0.size - ↑q1.size) (cu q2)) (cz q4);omega
   ·skip
    refine(pJ J _ _ _ _ (B.gr gd) (by have:=aH (left - ↑q0.size - ↑q1.size) (cu q2);have:=aH (less (left - ↑q0.size - ↑q1.size) (cu q2)) (cz q4);omega) (by have:=aH (left - ↑q0.size - ↑q1.size) (cu q2);have:=aH (less (left - ↑q0.size - ↑q1.size) (cu q2)) (cz q4);omega)).mono ?_;rintro e w5 ⟨rfl,x5,rfl⟩;have bg:=fD (less (less (left - ↑q0.size - ↑q1.size) (cu q2)) (cz q4)) (df q5) (by have:=aH (left - ↑q0.size - ↑q1.size) (cu q2);have:=aH (less (left - ↑q0.size - ↑q1.size) (cu q2)) (cz q4);omega);go_wp2_with fail
    ·go_ret
     refine⟨aC ?_,gd⟩;have:=aH left (bF (q0,q1,q2,q3,q4,q5));have:=h.o;have:=aH (left - ↑q0.size - ↑q1.size) (cu q2);have:=aH (less (left - ↑q0.size - ↑q1.size) (cu q2)) (cz q4);have:=aH (less (less (left - ↑q0.size - ↑q1.size) (cu q2)) (cz q4)) (df q5);omega
    ·skip
     go_ret;refine⟨aC ?_,gd⟩;have:=aH left (bF (q0,q1,q2,q3,q4,q5));have:=h.o;have:=aH (left - ↑q0.size - ↑q1.size) (cu q2);have:=aH (less (left - ↑q0.size - ↑q1.size) (cu q2)) (cz q4);have:=aH (less (less (left - ↑q0.size - ↑q1.size) (cu q2)) (cz q4)) (df q5);omega
theorem Gt(q0:ByteArray)(q1:ByteArray)(q2:List ByteArray)(q3:Bool)(q4:List (aX d))(q5:List (aD d))(h:ByteArray)(q:ByteArray)(s:List ByteArray)(B:Bool)(D:List (aX d))(E:List (aD d))(H:q0=h)(I:q1=q)(J:q2=s)(K:q3=B)(O:q4=D)(T:q5=E):((q0,q1,q2,q3,q4,q5):(aW d))=(h,q,s,B,D,E):=by
 exact Prod.ext_iff.2 ⟨H,Prod.ext_iff.2 ⟨I,Prod.ext_iff.2 ⟨J,Prod.ext_iff.2 ⟨K,Prod.ext_iff.2 ⟨O,T⟩⟩⟩⟩⟩
theorem Ep(fp fq:List Nat)(cs X:Array Value)(x y:(aW d))(w:World)(Y:Rd.rd fp w cs.toList x)(Z:Rd.rd fq w X.toList y):
  Qz 80 #[.agg cs,.agg X] w (.bool (decide (x=y))):=by
 obtain⟨q0,q1,q2,q3,q4,q5⟩:=x;obtain⟨D,E,q,H,s,B⟩:=y;obtain⟨ay,ae,aL,ah,aN,ai,rfl,-,aS,aV,I,J,K⟩:=aM q0 q1 q2 q3 q4 q5 Y;obtain⟨aZ,aj,bg,au,bq,ax,rfl,-,bB,bD,O,T,U⟩:=aM D E q H s B Z;obtain⟨bH,bK,rfl,-,-,-⟩:=I.open;obtain⟨bL,bN,rfl,-,-,-⟩:=J.open;obtain⟨bV,cK,rfl,-,-,-⟩:=K.open;obtain⟨cO,dz,rfl,-,-,-⟩:=O.open;obtain⟨dA,dC,rfl,-,-,-⟩:=T.open;obtain⟨dG,dL,rfl,-,-,-⟩:=U.open;clear Y Z;delta Qz;go_in;go_wp2_with fail
 ·have h:(!q0.toList==D.toList)=true:=by assumption
  go_ret;exact⟨aa (decide_eq_false fun e=>lg h (congrArg (fun z:(aW d)=>z.1) e)).symm,gd⟩
 ·have h:(!q1.toList==E.toList)=true:=by assumption
  go_ret;exact⟨aa (decide_eq_false fun e=>lg h (congrArg (fun z:(aW d)=>z.2.1) e)).symm,gd⟩
 ·skip
  have e0:=Kz (str_eq (show(!q0.toList==D.toList)=false by assumption));have e1:=Kz (str_eq (show(!q1.toList==E.toList)=false by assumption));refine(yj ae aj _ _ q2 q _ (I.gr gd) (O.gr gd)).mono ?_;rintro e w2 ⟨rfl,x2,rfl⟩;go_wp2_with fail
  ·have h:(!decide (q2=q))=true:=by assumption
   go_ret;exact⟨aa (decide_eq_false fun e=>iy h (congrArg (fun z:(aW d)=>z.2.2.1) e)).symm,gd⟩
  ·have h:(q3 !=H)=true:=by assumption
   go_ret;exact⟨aa (decide_eq_false fun e=>ET h (congrArg (fun z:(aW d)=>z.2.2.2.1) e)).symm,gd⟩
  ·skip
   have e2:=Kz (iq (show(!decide (q2=q))=false by assumption));have e3:=Kz (Fa (show(q3 !=H)=false by assumption));refine(vM ah au _ _ q4 s _ (J.gr gd) (T.gr gd)).mono ?_;rintro e w4 ⟨rfl,x4,rfl⟩;go_wp2_with fail
   ·have h:(!decide (q4=s))=true:=by assumption
    go_ret;exact⟨aa (decide_eq_false fun e=>iy h (congrArg (fun z:(aW d)=>z.2.2.2.2.1) e)).symm,gd⟩
   ·skip
    have e4:=Kz (iq (show(!decide (q4=s))=false by assumption));refine(pU ai ax _ _ q5 B _ (K.gr gd) (U.gr gd)).mono ?_;rintro e w5 ⟨rfl,x5,rfl⟩;go_wp2_with fail
    ·have h:(!decide (q5=B))=true:=by assumption
     go_ret;exact⟨aa (decide_eq_false fun e=>iy h (congrArg (fun z:(aW d)=>z.2.2.2.2.2) e)).symm,gd⟩
    ·skip
     have e5:=Kz (iq (show(!decide (q5=B))=false by assumption));go_ret;exact⟨aa (decide_eq_true (Gt q0 q1 q2 q3 q4 q5 D E q H s B e0.o e1.o e2.o e3.o e4.o e5.o)).symm,gd⟩
theorem DL(fp:List Nat)(cs:Array Value)(x:(aW d))(w:World)(I:Rd.rd fp w cs.toList x)(hl:bF x≤1048576):
  Calls Tryz.prog 67 #[.agg cs] w fun e w'=>∃J fq,e=.returned (.agg J)∧Rd.rd fq w' J.toList x∧aY w fq∧Gr w w':=by
 obtain⟨q0,q1,q2,q3,q4,q5,aL,aN,K,aS,aV,O,aZ,bg,T,rfl,rfl,-,U,X,Y,-,-,Z,-,-,ae,-,-⟩:=KV I;have q:bF (q0,q1,q2,q3,q4,q5)=(q0.size)+(q1.size)+(cu q2)+(cz q4)+(df q5):=by rfl
 have E:=Kz q;clear q I;go_in;go_wp2_with fail;refine(yF K _ _ _ (Y.gr gd) (by have:=E.o;have h2:q2.length≤cu q2:=bT ByteArray.size q2;omega)).mono ?_;rintro e w2 ⟨u2,g2,rfl,s2,s,x2,rfl⟩;obtain⟨ah,ai,rfl,-,-,-⟩:=s2.open;go_wp2_with fail;refine(vH O _ _ _ (Z.gr gd) (by have:=E.o;omega)).mono ?_;rintro e w4 ⟨u4,g4,rfl,H,B,x4,rfl⟩;obtain⟨aj,au,rfl,-,-,-⟩:=H.open;go_wp2_with fail;refine(pQ T _ _ _ (ae.gr gd) (by have:=E.o;omega)).mono ?_;rintro e w5 ⟨u5,g5,rfl,s5,D,x5,rfl⟩;obtain⟨ax,ay,rfl,-,-,-⟩:=s5.open;go_wp2_with fail
 have h:aY w (g2++(g4++g5)):=by
  exact(aY.app (aY.of_le s (by simp<;>omega)) (SlR.lt s2) (aY.app B (SlR.lt H) D (by simp<;>omega) (by simp<;>omega)) (by simp<;>omega) (by simp<;>omega))
 exact bodyPost_ret (v:=.agg #[.string q0,.string q1,.slice ah q2.length ai,.bool q3,.slice aj q4.length au,.slice ax q5.length ay]) (by simp[results,Tryz.results67,go_sem]) rfl
  ⟨_,_,rfl,pI q0 q1 q2 q3 q4 q5 U X (SlR.moved s2 s gd (by simp)) (SlR.moved H B gd (by simp)) (SlR.moved s5 D gd (by simp)),h,gd⟩
def gz(xs:List (aW d)):Nat:=wtL bF xs
theorem BV(fp:List Nat)(u:Value)(xs:List (aW d))(left:Int)(w:World)(hu:SlR fp w u xs)(Y:0≤left)(h1:left≤1048576):
  Qz 23 #[u,.int .i64 left] w (.int .i64 (less left (gz xs))):=by
 obtain⟨a,ca,rfl,g1,g2,J⟩:=hu.open
 by_cases E:left - xs.length<0
 ·have hle:less left (gz xs)= -1:=by unfold less gz wtL;rw[if_pos (by omega)]
  have Z:=Kz hle;clear hle;delta Qz;go_in
  go_wp2
  go_ret;exact⟨aC Z.o.symm,Gr.refl w⟩
 ·have D:less left xs.length=left - xs.length:=by unfold less;rw[if_neg E]
  have K:=Kz D;clear D;delta Qz;go_in
  go_wp2
  go_loopw [5,1] (fun H s1 wr=>∃(k:Nat) (m:Int),k≤xs.length∧0≤m∧m≤1048576∧Ky (m=less left (xs.length+((xs.take k).map bF).sum))∧Gr w wr∧H=.int .i64 k∧s1=.int .i64 m) (fun H _ _=>xs.length - (intOf H).toNat)
  case atStart=>exact⟨0,_,by omega,by omega,by omega,Kz (by simp[K.o]),Gr.refl w,rfl,rfl⟩
  case round=>
   obtain⟨k,m,hk,ae,ah,hm,⟨x,rfl⟩,rfl,rfl⟩:=hrel
   by_cases h:k<xs.length
   ·obtain⟨b,off,rfl,hb⟩:=J k h
    have q:=Kz (eZ bF xs k h);obtain⟨q0,q1,q2,q3,q4,q5,ai,aj,au,ax,ay,aL,aN,aS,aV,aZ,O,T,bg,bq,bB,-,-,bD,-,-,bH,-,-,z0,z1,z2,z3,z4,z5,-⟩:=Lf hu h (Gr.refl _);have I:=Lb O T;have X:=fD m (bF xs[k]) (by omega);clear J
    go_wp2_with (go_at_call 57;refine(DC _ _ xs[k] _ _ (Rd.gr I ((Gr.refl w).ext _)) (by omega) (by omega)).mono ?_;rintro e w1 ⟨rfl,y,rfl⟩)
    ·have B:less m (bF xs[k])<0:=by assumption
     go_ret;refine⟨aC ?_,gd⟩;have e:=hm.o;subst e;rw[fE,Nat.add_assoc,←q.o] at B;exact(jV B (Nat.add_le_add_left (gJ bF xs (k+1)) _) Y).symm
    ·have B:0≤less m (bF xs[k]):=by assumption
     refine⟨⟨k+1,_,by omega,B,by omega,Kz ?_,gd,by go_num,rfl⟩,by simp[intOf];omega⟩;rw[q.o,hm.o,fE,Nat.add_assoc]
   ·have U:k=xs.length:=by omega
    subst U;have s:=hm.o;rw[take_length] at s;have HM:=Kz s;clear s hm
    go_wp2
    go_ret;exact⟨aC HM.o,gd⟩
theorem BZ(fp fq:List Nat)(u v:Value)(xs q:List (aW d))(w:World)(hu:SlR fp w u xs)(T:SlR fq w v q):
  Qz 34 #[u,v] w (.bool (decide (xs=q))):=by
 obtain⟨a,ca,rfl,h1,h2,U⟩:=hu.open;obtain⟨c,cc,rfl,g1,g2,X⟩:=T.open
 by_cases D:xs.length=q.length
 ·have I:=Kz D
  have Y:((xs.length:Int)!=(q.length:Int))=false:=by simp[D]
  clear D;delta Qz;go_in
  go_wp2
  go_loopw [5] (fun J wr=>∃k:Nat,k≤xs.length∧xs.take k=q.take k∧Gr w wr∧J=.int .i64 k) (fun J _=>xs.length - (intOf J).toNat)
  case atStart=>exact⟨0,by omega,rfl,Gr.refl w,rfl⟩
  case round=>
   obtain⟨k,hk,s,⟨x,rfl⟩,rfl⟩:=hrel
   by_cases H:k<xs.length
   ·have B:k<q.length:=by have:=I.o;omega
    obtain⟨b,off,rfl,hb⟩:=U k H;obtain⟨b',au,rfl,ax⟩:=X k B;obtain⟨q0,q1,q2,q3,q4,q5,ay,aL,aN,aS,aV,aZ,bg,bq,bB,bD,Z,ae,bH,bK,bL,-,-,bN,-,-,bV,-,-,z0,z1,z2,z3,z4,z5,-⟩:=Lf hu H (Gr.refl _);have K:=Lb Z ae;obtain⟨p0,p1,p2,p3,p4,p5,cK,cO,dz,dA,dC,dG,dL,dU,dW,eH,ah,ai,fe,fu,fw,-,-,fA,-,-,fK,-,-,gm,gB,gD,gF,gH,gM,-⟩:=Lf T B (Gr.refl _);have O:=Lb ah ai;have hT:=Kz s;clear U X s;go_wp2_with fail;refine wg ?_
    repeat(go_big_quiet_step ((go_at_call 80;refine aG (Ep _ _ _ _ xs[k] q[k] _ (Rd.gr K ?_) (Rd.gr O ?_))<;>exact((Gr.refl w).ext _).ext _)))
    refine wq fun nx=>?_
    go_wp2
    ·have s:(!decide (xs[k]=q[k]))=true:=by assumption
     go_ret;have E:xs≠q:=fun e=>iy s (by subst e;rfl)
     exact⟨aa (decide_eq_false E).symm,gd⟩
    ·have s:(!decide (xs[k]=q[k]))=false:=by assumption
     have e2:=iq s;refine⟨⟨k+1,by omega,?_,gd,by go_num⟩,by simp[intOf];omega⟩;rw[List.take_succ_eq_append_getElem H,List.take_succ_eq_append_getElem B,hT.o,e2]
   ·have aj:k=xs.length:=by omega
    subst aj
    have e:xs=q:=by
     have h:=s;have h':=I.o;rw[take_length,h',take_length] at h;exact h
    have E:=Kz e;clear e s
    go_wp2
    go_ret;exact⟨aa (decide_eq_true E.o).symm,gd⟩
 ·have Y:((xs.length:Int)!=(q.length:Int))=true:=by simp;omega
  have e:xs≠q:=fun e=>D (by rw[e])
  have E:=Kz e;clear e D;delta Qz;go_in
  go_wp2
  go_ret;exact⟨aa (decide_eq_false E.o).symm,Gr.refl w⟩
theorem Tryz.Ie:(Tryz.prog.info? 112).map (fun i=>(i.zero,i.size,i.bytes))=some (some (.agg #[.string ByteArray.empty,.string ByteArray.empty,.slice none 0 0,.bool false,.slice none 0 0,.slice none 0 0]),6,112):=by kernel_rfl
theorem Db(fp:List Nat)(u:Value)(xs:List (aW d))(w:World)(hu:SlR fp w u xs)(hlen:gz xs≤1048576):
  Calls Tryz.prog 29 #[u] w fun e w'=>∃v fq,e=.returned v∧SlR fq w' v xs∧aY w fq∧Gr w w':=by
 obtain⟨a,ca,rfl,h1,h2,h3⟩:=hu.open;have bH:xs.length≤1048576:=le_trans (bT bF xs) hlen;obtain⟨i0,hi,ae,ah,ai⟩:=info_parts Tryz.Ie;have I:=fun(W:World)=>run_make (P:=Tryz.prog) W 34 112 i0 (.agg #[.string ByteArray.empty,.string ByteArray.empty,.slice none 0 0,.bool false,.slice none 0 0,.slice none 0 0]) Tryz.underlying34 hi ae .i64 .i64 xs.length xs.length (by omega) (by omega) (by rw[ai];omega) (by omega)
 rw[ah] at I;clear hi ae ah ai;simp only[Int.toNat_natCast] at I;have J:=size_madeCells (Value.agg #[.string ByteArray.empty,.string ByteArray.empty,.slice none 0 0,.bool false,.slice none 0 0,.slice none 0 0]).cells (xs.length*6);generalize madeCells (Value.agg #[.string ByteArray.empty,.string ByteArray.empty,.slice none 0 0,.bool false,.slice none 0 0,.slice none 0 0]).cells (xs.length*6)=C0 at I J;have HS:=Kz J;have aL:=Kz hlen;clear J hlen;go_in
 go_wp2
 go_loopw [4] (fun s4 wr=>∃(k:Nat) (C:Array Value) (x:Ext) (fps:List (List Nat)),C.size=xs.length*6∧iF w w.heap.size wr C k fps xs∧wr=(w.alloc (.cells C 112)).ext x∧s4=.int .i64 k) (fun s4 _=>xs.length - (intOf s4).toNat)
 case atStart=>exact⟨0,C0,⟨#[],0⟩,[],HS.o,iF.start _ _ (le_refl _) (by simp),(lX _).symm,rfl⟩
 case round=>
  obtain⟨k,C,x,fps,hC,hp,rfl,rfl⟩:=hrel;have aN:=Kz hC;have hk:=hp.le
  by_cases H:k<xs.length
  ·obtain⟨b,off,rfl,hb⟩:=h3 k H
   have aj:=dI bF xs H;obtain⟨q0,q1,q2,q3,q4,q5,bK,bL,bN,bV,cK,cO,dz,dA,dC,dG,aS,aV,dL,dU,dW,-,-,eH,-,-,fe,-,-,z0,z1,z2,z3,z4,z5,-⟩:=Lf hu H (Gr.refl _);have ay:=Lb aS aV;have y0:k*6<C.size:=by omega
   have y1:k*6+1<C.size:=by omega
   have y2:k*6+2<C.size:=by omega
   have y3:k*6+3<C.size:=by omega
   have y4:k*6+4<C.size:=by omega
   have y5:k*6+5<C.size:=by omega
   have fu:bF xs[k]≤1048576:=le_trans aj aL.o;have au:k*6+6≤C.size:=by omega
   have HD:=Kz au;clear hC h3 aj au
   go_wp2_with (go_at_call 67;refine(DL _ _ xs[k] _ (Rd.gr ay gd) (by omega)).mono ?_;rintro e w1 ⟨ds,fq,rfl,K,hf,y,rfl⟩;have ax:=K;generalize xs[k]=yr at ax;obtain⟨O,T,U,X,Y,Z⟩:=yr;obtain⟨fw,fA,fK,gm,gB,gD,rfl,aZ,gF,gH,bg,bq,bB⟩:=aM O T U X Y Z ax;obtain⟨h,q,rfl,-,-,-⟩:=bg.open;obtain⟨s,B,rfl,-,-,-⟩:=bq.open;obtain⟨D,E,rfl,-,-,-⟩:=bB.open;clear aZ)
   rw[iV,←CX];refine⟨⟨k+1,setRow C (k*6) [.string O,.string T,.slice h U.length q,.bool X,.slice s Y.length B,.slice D Z.length E],x.comp y,fps++[fq],?_,?_,rfl,by go_num⟩,by simp[intOf];omega⟩
   ·rw[setRow_size];exact aN.o
   ·refine hp.lT H (C':=setRow C (k*6) [.string O,.string T,.slice h U.length q,.bool X,.slice s Y.length B,.slice D Z.length E]) (cs:=[.string O,.string T,.slice h U.length q,.bool X,.slice s Y.length B,.slice D Z.length E]) ?_ hf (fun j hj=>jW _ _ _ _ hj) (jS _ _ _ HD.o)
    exact K
  ·have bD:k=xs.length:=by omega
   subst bD;obtain⟨fq,K,hf⟩:=hp.done (iD _ x) (cap:=xs.length) (le_refl _) (by unfold bn;omega);have HF:=Kz K;clear K hC
   go_wp2
   go_ret;exact⟨_,fq,rfl,HF.o,hf,gd⟩
abbrev af(d:Nat):=List bC×List (aW d)
def aP(x:(af d)):Nat:=dH x.1+gz x.2
theorem aB(q0:List bC)(q1:List (aW d))(h:Rd.rd (α:=(af d)) fp w cs.toList (q0,q1)):
  ∃q B s D,cs=#[q,s]∧fp=(B++D)∧SlR B w q q0∧SlR D w s q1:=by
 generalize E:cs.toList=l at h;obtain⟨_,_,_,_,rfl,rfl,⟨q,rfl,H⟩,⟨s,rfl,I⟩⟩:=h;exact⟨_,_,_,_,Array.toList_inj.1 (by simpa using E),rfl,H,I⟩
theorem yt{c:Array Value}{x:(af d)}(h:Rd.rd fp w c.toList x):
 ∃q0 q1 B q D E s H,(q0,q1)=x∧c=#[.slice B q0.length q,.slice E q1.length s]∧Ky (fp=(D++H))∧SlR D w (.slice B q0.length q) q0∧q0.length≤q∧q0.length≤140737488351232∧SlR H w (.slice E q1.length s) q1∧q1.length≤s∧q1.length≤140737488351232:=by
 obtain⟨q0,q1⟩:=x;obtain⟨Y,D,Z,H,rfl,X,I,J⟩:=aB q0 q1 h;obtain⟨B,q,rfl,K,O,-⟩:=I.open;obtain⟨E,s,rfl,T,U,-⟩:=J.open;exact⟨_,_,_,_,_,_,_,_,rfl,rfl,Kz X,I,K,O,J,T,U⟩
theorem nN{x:(af d)}(h:Rd.rd (α:=(af d)) fp w cs.toList x):
  ∃q E s B H D,cs=#[.slice q E s,.slice B H D]:=by
 obtain⟨q0,q1⟩:=x;obtain⟨K,O,T,U,rfl,-,I,J⟩:=aB q0 q1 h;obtain⟨q,s,rfl,-,-,-⟩:=I.open;obtain⟨B,D,rfl,-,-,-⟩:=J.open;exact⟨_,_,_,_,_,_,rfl⟩
theorem rH(q0:List bC)(q1:List (aW d)){h:Value}{q:List Nat}{s:Value}{B:List Nat}(D:SlR q w h q0)(E:SlR B w s q1):
  Rd.rd (α:=(af d)) ((q++B)) w [h,s] (q0,q1):=⟨_,_,_,_,rfl,rfl,⟨_,rfl,D⟩,⟨_,rfl,E⟩⟩
theorem kI(fp:List Nat)(cs:Array Value)(x:(af d))(left:Int)(w:World)(s:Rd.rd fp w cs.toList x)(h0:0≤left)(h1:left≤1048576):
  Qz 5 #[.agg cs,.int .i64 left] w (.int .i64 (less left (aP x))):=by
 obtain⟨q0,q1,I,J,B,K,O,D,rfl,rfl,-,E,T,U,H,X,Y⟩:=yt s;have h:aP (q0,q1)=(dH q0)+(gz q1):=by rfl
 have q:=Kz h;clear h s;delta Qz;go_in;go_wp2_with fail;refine(yI B _ _ _ _ (E.gr gd) (by omega) (by omega)).mono ?_;rintro e w0 ⟨rfl,x0,rfl⟩;have Z:=fD (left) (dH q0) (by omega);go_wp2_with fail
 ·go_ret
  refine⟨aC ?_,gd⟩;have:=aH left (aP (q0,q1));have:=q.o;have:=aH (left) (dH q0);omega
 ·skip
  refine(BV D _ _ _ _ (H.gr gd) (by have:=aH (left) (dH q0);omega) (by have:=aH (left) (dH q0);omega)).mono ?_;rintro e w1 ⟨rfl,x1,rfl⟩;have ae:=fD (less (left) (dH q0)) (gz q1) (by have:=aH (left) (dH q0);omega);go_wp2_with fail
  ·go_ret
   refine⟨aC ?_,gd⟩;have:=aH left (aP (q0,q1));have:=q.o;have:=aH (left) (dH q0);have:=aH (less (left) (dH q0)) (gz q1);omega
  ·skip
   go_ret;refine⟨aC ?_,gd⟩;have:=aH left (aP (q0,q1));have:=q.o;have:=aH (left) (dH q0);have:=aH (less (left) (dH q0)) (gz q1);omega
theorem Cs(q0:List bC)(q1:List (aW d))(h:List bC)(q:List (aW d))(s:q0=h)(B:q1=q):((q0,q1):(af d))=(h,q):=by
 exact Prod.ext_iff.2 ⟨s,B⟩
theorem yl(fp fq:List Nat)(cs I:Array Value)(x y:(af d))(w:World)(J:Rd.rd fp w cs.toList x)(K:Rd.rd fq w I.toList y):
  Qz 12 #[.agg cs,.agg I] w (.bool (decide (x=y))):=by
 obtain⟨q0,q1⟩:=x;obtain⟨h,q⟩:=y;obtain⟨ae,O,ah,T,rfl,-,s,B⟩:=aB q0 q1 J;obtain⟨ai,U,aj,X,rfl,-,D,E⟩:=aB h q K;obtain⟨au,ax,rfl,-,-,-⟩:=s.open;obtain⟨ay,aL,rfl,-,-,-⟩:=B.open;obtain⟨aN,aS,rfl,-,-,-⟩:=D.open;obtain⟨aV,aZ,rfl,-,-,-⟩:=E.open;clear J K;delta Qz;go_in;go_wp2_with fail;refine(yw O U _ _ q0 h _ (s.gr gd) (D.gr gd)).mono ?_;rintro e w0 ⟨rfl,x0,rfl⟩;go_wp2_with fail
 ·have H:(!decide (q0=h))=true:=by assumption
  go_ret;exact⟨aa (decide_eq_false fun e=>iy H (congrArg (fun z:(af d)=>z.1) e)).symm,gd⟩
 ·skip
  have Y:=Kz (iq (show(!decide (q0=h))=false by assumption));refine(BZ T X _ _ q1 q _ (B.gr gd) (E.gr gd)).mono ?_;rintro e w1 ⟨rfl,x1,rfl⟩;go_wp2_with fail
  ·have H:(!decide (q1=q))=true:=by assumption
   go_ret;exact⟨aa (decide_eq_false fun e=>iy H (congrArg (fun z:(af d)=>z.2) e)).symm,gd⟩
  ·skip
   have Z:=Kz (iq (show(!decide (q1=q))=false by assumption));go_ret;exact⟨aa (decide_eq_true (Cs q0 q1 h q Y.o Z.o)).symm,gd⟩
theorem kG(fp:List Nat)(cs:Array Value)(x:(af d))(w:World)(E:Rd.rd fp w cs.toList x)(hl:aP x≤1048576):
  Calls Tryz.prog 8 #[.agg cs] w fun e w'=>∃H fq,e=.returned (.agg H)∧Rd.rd fq w' H.toList x∧aY w fq∧Gr w w':=by
 obtain⟨q0,q1,ae,ah,I,ai,aj,J,rfl,rfl,-,K,-,-,O,-,-⟩:=yt E;have q:aP (q0,q1)=(dH q0)+(gz q1):=by rfl
 have T:=Kz q;clear q E;go_in;go_wp2_with fail;refine(yV I _ _ _ (K.gr gd) (by have:=T.o;omega)).mono ?_;rintro e w0 ⟨u0,g0,rfl,D,s,x0,rfl⟩;obtain⟨U,X,rfl,-,-,-⟩:=D.open;go_wp2_with fail;refine(Db J _ _ _ (O.gr gd) (by have:=T.o;omega)).mono ?_;rintro e w1 ⟨u1,g1,rfl,s1,B,x1,rfl⟩;obtain⟨Y,Z,rfl,-,-,-⟩:=s1.open;go_wp2_with fail
 have h:aY w (g0++g1):=by
  exact(aY.app (aY.of_le s (by simp<;>omega)) (SlR.lt D) B (by simp<;>omega) (by simp<;>omega))
 exact bodyPost_ret (v:=.agg #[.slice U q0.length X,.slice Y q1.length Z]) (by simp[results,Tryz.results8,go_sem]) rfl
  ⟨_,_,rfl,rH q0 q1 (SlR.moved D s gd (by simp)) (SlR.moved s1 B gd (by simp)),h,gd⟩
def nth{α:Type}(l:List α)(i:Int):Option α:=if 0≤i then l[i.toNat]? else none
theorem IY{α:Type}(l:List α)(k:Nat):nth l (k:Int)=l[k]?:=by unfold nth;rw[if_pos (by omega)];simp
theorem gG{α:Type}{l:List α}{k:Nat}(h:k<l.length):nth l (k:Int)=some l[k]:=by rw[IY];simp[h]
theorem jY{α:Type}{l:List α}{i:Int}(h:i<0∨(l.length:Int) - 1<i):nth l i=none:=by
 unfold nth
 split
 ·exact List.getElem?_eq_none (by omega)
 ·rfl
def bW(ss:List bC)(n:ByteArray):Option bC:=ss.find? fun s=>decide (s.1=n)
def dJ(rs:List (aW d))(n:ByteArray):Option (aW d):=rs.find? fun r=>decide (r.1=n)
def ek(xs:List aQ)(n:ByteArray):Option aQ:=xs.find? fun a=>decide (a.1=n)
def zI(es:List (aX d))(o:ag):Option (aX d):=es.find? fun e=>decide (e.1=o)
def dE:bC:=(ByteArray.empty,[])
def fH:aW d:=(ByteArray.empty,ByteArray.empty,[],false,[],[])
def dR:aQ:=(ByteArray.empty,0,0,false)
def dQ(t:List aT)(id:Int):Int:=idxOf (fun n=>decide (n.1=id)) t
def leftOf(g:af d)(n:aT):ByteArray:=((dJ g.2 n.2.2.2.2.1).getD fH).2.1
def zB(g:af d)(t:List aT)(i:Int):ByteArray:=match nth t i with|none=>ByteArray.empty|some n=>leftOf g n
def ed(g:af d)(t:List aT)(x:av):Option aQ:=
 if dQ t x.1<0 then none else ek ((bW g.1 (zB g t (dQ t x.1))).getD dE).2 x.2
def nL(v:Int)(lit:Bool):Bool:=decide (-1000000≤v∧v≤1000000)&&(lit||decide (v=0))
def KD(walk:Int→Int→ByteArray→Int):List Int→List ByteArray→Int→Int→Int
 |c::cs,s::ss,k,at_=>if c≠at_ then -1 else if walk at_ k s<0 then -1 else KD walk cs ss (k+1) (walk at_ k s)
 |_,_,_,at_=>at_
def zK(g:af d)(t:List aT):Nat→Int→Int→Int→ByteArray→Int
 |0,_,_,_,_=>-1
 |f+1,i,parent,place,sym=>
  match nth t i with
  |none=>-1
  |some n=>match dJ g.2 n.2.2.2.2.1 with
   |none=>-1
   |some r=>if r.2.1=sym∧n.2.1=parent∧n.2.2.1=place∧n.2.2.2.2.2.length=r.2.2.1.length∧nL n.2.2.2.1 r.2.2.2.1=true
    then KD (fun at_ k s=>zK g t f at_ i k s) n.2.2.2.2.2 r.2.2.1 1 (i+1) else -1
def qa(t:List aT):Prop:=∀i (h:i<t.length),(1≤t[i].1∧t[i].1≤999)∧∀j (q:j<t.length),j<i→t[j].1≠t[i].1
noncomputable def kY(g:af d)(t:List aT)(sym:ByteArray):Bool:=
 @decide ((1≤t.length∧t.length≤16)∧qa t∧zK g t (t.length+1) 0 (-1) 0 sym=t.length) (Classical.propDecidable _)
noncomputable def fP(g:af d)(t:List aT):Bool:=kY g t (zB g t 0)
def ll(g:af d)(n:aT):List av:=((bW g.1 (leftOf g n)).getD dE).2.map fun a=>(n.1,a.1)
noncomputable def bU(g:af d)(t:List aT):List av:=if fP g t=true then t.flatMap (ll g) else[]
theorem xV{g:af d}(h:1≤t.length∧t.length≤16)(q:qa t)(s:zK g t (t.length+1) 0 (-1) 0 sym=t.length):kY g t sym=true:=by
 unfold kY;exact @decide_eq_true _ (Classical.propDecidable _) ⟨h,q,s⟩
theorem lJ{g:af d}(h:¬((1≤t.length∧t.length≤16)∧qa t∧zK g t (t.length+1) 0 (-1) 0 sym=t.length)):kY g t sym=false:=by
 unfold kY;exact @decide_eq_false _ (Classical.propDecidable _) h
theorem jv{g:af d}:kY g t sym=true↔(1≤t.length∧t.length≤16)∧qa t∧zK g t (t.length+1) 0 (-1) 0 sym=t.length:=by
 unfold kY;exact @decide_eq_true_iff _ (Classical.propDecidable _)
theorem Df{α:Type}(p:α→Bool)(xs:List α):idxOf p xs<xs.length∨idxOf p xs= -1:=by
 induction xs with
 |nil=>right;rfl
 |cons x xs h=>
  simp only[idxOf,List.length_cons]
  split
  ·left;omega
  ·split<;>omega
theorem Hz{w:Int→Int→ByteArray→Int}{n:Int}(hw:∀a k s,0≤w a k s→a<w a k s∧w a k s≤n):∀(cs:List Int) (ss:List ByteArray) (k a:Int),a≤n→0≤KD w cs ss k a→a≤KD w cs ss k a∧KD w cs ss k a≤n:=by
 intro cs
 induction cs with
 |nil=>intro ss k a D h;simp only[KD];omega
 |cons c cs E=>
  intro ss k a D h
  cases ss with
  |nil=>simp only[KD];omega
  |cons s ss=>
   simp only[KD] at h ⊢
   by_cases q:c≠a
   ·rw[if_pos q] at h;omega
   ·rw[if_neg q] at h ⊢
    by_cases B:w a k s<0
    ·rw[if_pos B] at h;omega
    ·rw[if_neg B] at h ⊢
     have:=hw a k s (by omega);have:=E ss (k+1) (w a k s) (by omega) h;omega
theorem rX(g:af d)(t:List aT):∀(f:Nat) (i parent place:Int) (sym:ByteArray),0≤zK g t f i parent place sym→i<zK g t f i parent place sym∧zK g t f i parent place sym≤t.length:=by
 intro f
 induction f with
 |zero=>intro i parent place sym h;simp[zK] at h
 |succ f D=>
  intro i parent place sym h
  rw[zK] at h ⊢
  cases q:nth t i with
  |none=>simp[q] at h
  |some n=>
   have E:i+1≤t.length:=by
    unfold nth at q
    split at q
    ·have:=(List.getElem?_eq_some_iff.1 q).1;omega
    ·cases q
   simp only[q] at h ⊢
   cases B:dJ g.2 n.2.2.2.2.1 with
   |none=>simp[B] at h
   |some r=>
    simp only[B] at h ⊢
    split at h
    ·rename_i hc
     rw[if_pos hc];have:=Hz (w:=fun at_ k s=>zK g t f at_ i k s) (n:=t.length) (fun a k s H=>D a i k s H) _ _ _ _ E h;omega
    ·omega
theorem Ia{w:Int→Int→ByteArray→Int}(hw:∀a k s,-1≤w a k s):∀(cs:List Int) (ss:List ByteArray) (k a:Int),-1≤a→-1≤KD w cs ss k a:=by
 intro cs
 induction cs with
 |nil=>intro ss k a h;simpa only[KD] using h
 |cons c cs q=>
  intro ss k a h
  cases ss with
  |nil=>simpa only[KD] using h
  |cons s ss=>
   simp only[KD]
   split
   ·omega
   ·split
    ·omega
    ·exact q _ _ _ (hw _ _ _)
def Found{α:Type}[Rd α](fp:List Nat)(w:World)(o:Option α)(z:α)(e:Ending)(w':World):Prop:=
 ∃es fq,e=.returned (.tuple #[.agg es,.bool o.isSome])∧Rd.rd fq w' es.toList (o.getD z)∧(∀c∈fq,c∈fp∨w.heap.size≤c)∧Gr w w'
def Made{α:Type}[Rd α](w:World)(x:α)(e:Ending)(w':World):Prop:=
 ∃h fq,e=.returned (.agg h)∧Rd.rd fq w' h.toList x∧aY w fq∧Gr w w'
theorem CR(w:World):Rd.rd (α:=bC) ([]++[]) w [.string ByteArray.empty,.slice none 0 0] dE:=iQ _ _ (by decide) (SlR.nil w)
theorem CE(w:World):Rd.rd (α:=aW d) ([]++([]++([]++([]++([]++[]))))) w [.string ByteArray.empty,.string ByteArray.empty,.slice none 0 0,.bool false,.slice none 0 0,.slice none 0 0] fH:=
 pI _ _ _ _ _ _ (by decide) (by decide) (SlR.nil w) (SlR.nil w) (SlR.nil w)
theorem oD(w:World):Rd.rd (α:=aQ) ([]++([]++([]++[]))) w [.string ByteArray.empty,.int .i64 0,.int .i64 0,.bool false] dR:=jk _ _ _ _ (by decide) (by decide) (by decide)
theorem Tryz.tC:(Tryz.prog.info? 115).map (fun i=>(i.zero,i.size,i.bytes))=some (some (.agg #[.int .i64 0,.int .i64 0,.int .i64 0,.int .i64 0,.string ByteArray.empty,.string ByteArray.empty,.slice none 0 0]),7,88):=by kernel_rfl
theorem pE{α:Type}[Rd α]{w0:World}{e:TypeId}{v:Value}{fps:List (List Nat)}{xs:List α}(h:bE w0 e w v fps xs){fq:List Nat}(q:aY w fq):∀b,v.ownBlock=some b→b∉[fq].flatten:=by
 intro b s hm
 have B:=(h.base b s).2;have D:=q.2 b (by simpa using hm);omega
theorem kD{w0:World}{fps:List (List Nat)}{fq:List Nat}(h:aY w0 fps.flatten)(q:∀b∈fps.flatten,b<w.heap.size)(hw:w0.heap.size≤w.heap.size)(k:aY w fq):aY w0 (fps++[fq]).flatten:=by
 have:=h.append hw q k;simpa using this
theorem Af(hE:∀(fp:List Nat) (cs:Array Value) (x:GE d) (w:World) (hx:Rd.rd fp w cs.toList x) (hl:wtE d x≤1048576),Calls Tryz.prog 190 #[.agg cs] w (Made w x))
  (fp:List Nat) (cs:Array Value) (x:aA d) (w:World) (hx:Rd.rd fp w cs.toList x) (hl:ak x≤1048576):
  Calls Tryz.prog 190 #[.agg cs] w (Made w x):=by
 obtain⟨q0,q1,q2,q3,q4,q5,q6,Y,Z,eH,rfl,rfl,-,ae,ah,ai,aj,au,ax,ay,dU,dW⟩:=KU hx;have E:=ay.op3
 have H:fC q6≤1048576:=by
  have h:q4.size+q5.size+fC q6≤1048576:=hl;omega
 have fe:q6.length≤1048576:=le_trans (bT (wtE _) q6) H;have HW:=Kz H;have H0:=Kz (And.intro ae (And.intro ah (And.intro ai (And.intro aj (And.intro au ax)))));obtain⟨i0,hi,aL,aN,aS⟩:=info_parts Tryz.tC;have T:=Kz (And.intro hi (And.intro aL (And.intro aN aS)));clear hi aL aN aS hx hl H ae ah ai aj au ax;go_in;go_wp2_with fail;generalize I:((w.alloc (.cells #[.int .i64 q0,.int .i64 q1,.int .i64 q2,.int .i64 q3,.string q4,.string q5,.slice Y q6.length Z] 115)).alloc (.cells #[.int .i64 0,.int .i64 0,.int .i64 0,.int .i64 0,.string ⟨#[]⟩,.string ⟨#[]⟩,.slice none 0 0] 115))=B;have gB:Gr w B:=gb I;obtain⟨fu,fw,fA,fK,gm,gD,bH⟩:=kb7 I (w.heap.size) (.int .i64 q0) (.int .i64 q1) (.int .i64 q2) (.int .i64 q3) (.string q4) (.string q5) (.slice Y q6.length Z);have sB:B.heap.size=w.heap.size+2:=szB I;have EB:=Kz I;clear I
 go_loopw [4,3] (fun s4 s3 wr=>∃(k:Nat) (fps:List (List Nat)),k≤q6.length∧Ky (aY B fps.flatten)∧Gr B wr∧bE B 115 wr s3 fps (q6.take k)∧s4=.int .i64 k) (fun s4 _ _=>q6.length - (intOf s4).toNat)
 case atStart=>exact⟨0,[],by omega,Kz (by simpa using aY.nil B),gd,bE.kF (α:=GE d) (w0:=B) (w:=B) 115 (le_refl _) (by omega),rfl⟩
 case round=>
  obtain⟨k,fps,hk,HF,U,hown,rfl⟩:=hrel
  rename World=>W1
  have HG:=Kz U;have X:=Kz hown;obtain⟨ra,rc,s⟩:=hown.form;have y6:=bH _ U;have J:(q6.take k).length=k:=by simp;omega
  rw[J] at s;have HL:=Kz J;have zx:=blk y6;have aV:=gB.trans U;have aZ:=Kz aV;subst s;clear U hown J aV
  by_cases D:k<q6.length
  ·obtain⟨d1,rfl⟩:∃e,d=e+1:=by
    cases d with
    |zero=>exact PEmpty.elim (q6[k])
    |succ e=>exact⟨e,rfl⟩
   have bg:wtE (d1+1) q6[k]≤1048576:=le_trans (dI (wtE _) q6 D) HW.o;have bK:=Kz bg;obtain⟨b,off,rfl,hb⟩:=E k D;obtain⟨p0,p1,p2,p3,p4,p5,p6,gF,gH,gM,gT,bL,bN,bV,cK,cO,dz,dA,dC,dG,-,-,z0,z1,z2,z3,z4,z5,z6,zb⟩:=Lc ay D aZ.o;clear E bV cK cO dz dA dC dG bg;go_wp2_with fail;refine(hE _ _ q6[k] _ (Rd.gr (by rw[←bL.o];exact bN.o) (tg aZ)) bK.o).mono ?_;rintro e w1 ⟨ds,fq,rfl,q,hf,y,rfl⟩;have HS:=Kz q;have bq:=Kz hf;obtain⟨r0,r1,r2,r3,r4,r5,ik,iw,jN,rfl⟩:=eO (show Rd.rd (α:=aA d1) fq _ ds.toList _ from q);clear q hf
   go_wp2_with (first|(at_builtin;refine bP (α:=GE (d1+1)) (w0:=B) (tg HG) rfl _ _ 113 rfl 115 i0 _ _ Tryz.underlying113 T.o.1 T.o.2.1 T.o.2.2.1 T.o.2.2.2 rfl _ fps _ (by rfl) (X.o.gr gd) _ [fq] [q6[k]] (by rfl) (eT.one (by simp) (Rd.gr HS.o gd)) (pE X.o bq.o) (by rw[HL.o];unfold maxLen;simp;omega) (by rw[HL.o];simp;omega) ?_;intro v3 w3 K h2 h3 O;replace K:=Kz K;replace O:=Kz O;clear h2 h3))
   refine⟨⟨k+1,fps++[fq],by omega,Kz (kD HF.o (bE.lt X.o) (HG.o.size) bq.o),O.o,?_,by go_num⟩,by simp[intOf];omega⟩;have e:q6.take (k+1)=q6.take k++[q6[k]]:=List.take_succ_eq_append_getElem D;rw[e];exact K.o
  ·have dL:k=q6.length:=by omega
   subst dL;obtain⟨y,rfl⟩:=HG.o;obtain⟨fr,q,bB⟩:=X.o.fresh (by rw[HL.o];unfold bn;omega) HF.o;rw[take_length] at q;have HS:=Kz q;have bD:=Kz bB;clear q bB;obtain rfl:=EB.o;obtain⟨h0,K,h2,h3,O,h5⟩:=H0.o;go_wp2_with fail
   exact bodyPost_ret (v:=.agg #[.int .i64 q0,.int .i64 q1,.int .i64 q2,.int .i64 q3,.string q4,.string q5,.slice ra q6.length rc])
    (by simp[results,Tryz.results190,go_sem]) rfl ⟨_,_,rfl,bJ q0 q1 q2 q3 q4 q5 q6 h0 K h2 h3 O h5 (SlR.moved HS.o bD.o gd (by simp)),bD.o.of_le (by simp<;>omega),gd⟩
theorem xX:(d:Nat)→∀(fp:List Nat) (cs:Array Value) (x:GE d) (w:World) (h:Rd.rd fp w cs.toList x) (q:wtE d x≤1048576),Calls Tryz.prog 190 #[.agg cs] w (Made w x)
 |0=>by intro fp cs x;exact PEmpty.elim x
 |d+1=>Af (xX d)
theorem ny(fp:List Nat)(cs:Array Value)(x:aA d)(w:World)(h:Rd.rd fp w cs.toList x)(q:ak x≤1048576):
  Calls Tryz.prog 190 #[.agg cs] w (Made w x):=Af (xX d) fp cs x w h q
end Go.Proofs.YtdhighcpmcdmmaaGreat
