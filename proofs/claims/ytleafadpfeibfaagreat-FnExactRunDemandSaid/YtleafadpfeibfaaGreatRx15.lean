/- Contracts and laws towards ReadsOf, part 13 of 54. No condition. -/
import Derived.Test.YtleafadpfeibfaaGreatRx11
import Derived.Test.YtleafadpfeibfaaGreatRx08
import Derived.Test.YtleafadpfeibfaaGreatRx03
import Derived.Test.YtleafadpfeibfaaGreatRx10
set_option maxHeartbeats 32000000
set_option maxRecDepth 10000
set_option linter.unusedVariables false
set_option linter.unusedSimpArgs false
namespace Go.Proofs.YtleafadpfeibfaaGreat
open Go.RowKit
open _root_.List (getElem_mem take_length)
open _root_.Nat (le_refl le_trans)
variable{d:Nat}
variable{w:World}{fp:List Nat}{cs:Array Value}{t:List aT}{sym:ByteArray}
abbrev aW(d:Nat):=ByteArray×ByteArray×List ByteArray×Bool×List (aX d)×List (aD d)
def bF(x:(aW d)):Nat:=x.1.size+x.2.1.size+cu x.2.2.1+cz x.2.2.2.2.1+df x.2.2.2.2.2
instance decRule:DecidableEq (aW d):=@instDecidableEqProd _ _ _ (@instDecidableEqProd _ _ _ (@instDecidableEqProd _ _ _ (@instDecidableEqProd _ _ _ (@instDecidableEqProd _ _ _ (inferInstance)))))
theorem aM(q0:ByteArray)(q1:ByteArray)(q2:List ByteArray)(q3:Bool)(q4:List (aX d))(q5:List (aD d))(h:Rd.rd (α:=(aW d)) fp w cs.toList (q0,q1,q2,q3,q4,q5)):
  ∃q I B J D K,cs=#[.string q0,.string q1,q,.bool q3,B,D]∧fp=([]++([]++(I++([]++(J++K)))))∧q0.size≤maxLen∧q1.size≤maxLen∧SlR I w q q2∧SlR J w B q4∧SlR K w D q5:=by
 generalize O:cs.toList=l at h;obtain⟨_,_,_,_,rfl,rfl,⟨rfl,rfl,T⟩,⟨_,_,_,_,rfl,rfl,⟨rfl,rfl,U⟩,⟨_,_,_,_,rfl,rfl,⟨q,rfl,V⟩,⟨_,_,_,_,rfl,rfl,⟨rfl,rfl⟩,⟨_,_,_,_,rfl,rfl,⟨B,rfl,X⟩,⟨D,rfl,Y⟩⟩⟩⟩⟩⟩:=h;exact⟨_,_,_,_,_,_,Array.toList_inj.1 (by simpa using O),rfl,T,U,V,X,Y⟩
theorem KV{c:Array Value}{x:(aW d)}(h:Rd.rd fp w c.toList x):
 ∃q0 q1 q2 q3 q4 q5 I q O J B T K D U,(q0,q1,q2,q3,q4,q5)=x∧c=#[.string q0,.string q1,.slice I q2.length q,.bool q3,.slice J q4.length B,.slice K q5.length D]∧True∧q0.size≤maxLen∧q1.size≤maxLen∧SlR O w (.slice I q2.length q) q2∧q2.length≤q∧q2.length≤140737488351232∧SlR T w (.slice J q4.length B) q4∧q4.length≤B∧q4.length≤140737488351232∧SlR U w (.slice K q5.length D) q5∧q5.length≤D∧q5.length≤140737488351232:=by
 obtain⟨q0,q1,q2,q3,q4,q5⟩:=x;obtain⟨ay,O,aZ,T,bg,U,rfl,hf,Z,ae,V,X,Y⟩:=aM q0 q1 q2 q3 q4 q5 h;obtain⟨I,q,rfl,ah,ai,-⟩:=V.open;obtain⟨J,B,rfl,aj,ak,-⟩:=X.open;obtain⟨K,D,rfl,au,ax,-⟩:=Y.open;exact⟨_,_,_,_,_,_,_,_,_,_,_,_,_,_,_,rfl,rfl,⟨⟩,Z,ae,V,ah,ai,X,aj,ak,Y,au,ax⟩
theorem Lf{f:List Nat}{u:World}{b o n m k:Nat}{xs:List ((aW d))}(h:SlR f w (.slice (some ⟨b,o,none⟩) n m) xs)(hl:k<xs.length)(g:Gr w u):
 ∃q0 q1 q2 q3 q4 q5 I q O J B T K D U V,Ky ((q0,q1,q2,q3,q4,q5)=xs[k])∧Ky (Rd.rd (α:=(aW d)) V w [.string q0,.string q1,.slice I q2.length q,.bool q3,.slice J q4.length B,.slice K q5.length D] (q0,q1,q2,q3,q4,q5))∧q0.size≤maxLen∧q1.size≤maxLen∧SlR O w (.slice I q2.length q) q2∧q2.length≤q∧q2.length≤140737488351232∧SlR T w (.slice J q4.length B) q4∧q4.length≤B∧q4.length≤140737488351232∧SlR U w (.slice K q5.length D) q5∧q5.length≤D∧q5.length≤140737488351232∧u.cell? ⟨b,o+k*6,none⟩=some (.string q0)∧u.cell? ⟨b,o+k*6+1,none⟩=some (.string q1)∧u.cell? ⟨b,o+k*6+2,none⟩=some (.slice I q2.length q)∧u.cell? ⟨b,o+k*6+3,none⟩=some (.bool q3)∧u.cell? ⟨b,o+k*6+4,none⟩=some (.slice J q4.length B)∧u.cell? ⟨b,o+k*6+5,none⟩=some (.slice K q5.length D)∧b<u.heap.size:=by
 obtain⟨_,V,hc,hr⟩:=h.el hl;obtain⟨q0,q1,q2,q3,q4,q5,I,q,O,J,B,T,K,D,U,X,rfl,-,Y,Z,ae,ah,ai,aj,ak,au,ax,ay,aZ⟩:=KV hr;have z:=g.keep (hc 0 _ rfl);exact⟨_,_,_,_,_,_,_,_,_,_,_,_,_,_,_,_,Kz X,Lt X hr,Y,Z,ae,ah,ai,aj,ak,au,ax,ay,aZ,z,g.keep (hc 1 _ rfl),g.keep (hc 2 _ rfl),g.keep (hc 3 _ rfl),g.keep (hc 4 _ rfl),g.keep (hc 5 _ rfl),blk z⟩
theorem AX{x:(aW d)}(h:Rd.rd (α:=(aW d)) fp w cs.toList x):
  ∃q0 q1 q O B q3 D T I J U K,cs=#[.string q0,.string q1,.slice q O B,.bool q3,.slice D T I,.slice J U K]:=by
 obtain⟨q0,q1,q2,q3,q4,q5⟩:=x;obtain⟨Z,ae,ah,ai,aj,ak,rfl,-,-,-,V,X,Y⟩:=aM q0 q1 q2 q3 q4 q5 h;obtain⟨q,B,rfl,-,-,-⟩:=V.open;obtain⟨D,I,rfl,-,-,-⟩:=X.open;obtain⟨J,K,rfl,-,-,-⟩:=Y.open;exact⟨_,_,_,_,_,_,_,_,_,_,_,_,rfl⟩
theorem pI(q0:ByteArray)(q1:ByteArray)(q2:List ByteArray)(q3:Bool)(q4:List (aX d))(q5:List (aD d)){h:Value}{q:List Nat}{B:Value}{D:List Nat}{I:Value}{J:List Nat}(K:q0.size≤maxLen)(O:q1.size≤maxLen)(T:SlR q w h q2)(U:SlR D w B q4)(V:SlR J w I q5):
  Rd.rd (α:=(aW d)) (([]++([]++(q++([]++(D++J)))))) w [.string q0,.string q1,h,.bool q3,B,I] (q0,q1,q2,q3,q4,q5):=⟨_,_,_,_,rfl,rfl,⟨rfl,rfl,K⟩,⟨_,_,_,_,rfl,rfl,⟨rfl,rfl,O⟩,⟨_,_,_,_,rfl,rfl,⟨_,rfl,T⟩,⟨_,_,_,_,rfl,rfl,⟨rfl,rfl⟩,⟨_,_,_,_,rfl,rfl,⟨_,rfl,U⟩,⟨_,rfl,V⟩⟩⟩⟩⟩⟩
theorem DC(fp:List Nat)(cs:Array Value)(x:(aW d))(left:Int)(w:World)(J:Rd.rd fp w cs.toList x)(h0:0≤left)(h1:left≤1048576):
  Qz 64 #[.agg cs,.int .i64 left] w (.int .i64 (less left (bF x))):=by
 obtain⟨q0,q1,q2,q3,q4,q5⟩:=x;obtain⟨X,K,Y,O,Z,T,rfl,-,U,V,q,B,D⟩:=aM q0 q1 q2 q3 q4 q5 J;unfold maxLen at U;unfold maxLen at V;obtain⟨ae,ah,rfl,ai,aj,-⟩:=q.open;obtain⟨ak,au,rfl,ax,ay,-⟩:=B.open;obtain⟨aZ,bg,rfl,bq,bB,-⟩:=D.open;have I:bF (q0,q1,q2,q3,q4,q5)=(q0.size)+(q1.size)+(cu q2)+(cz q4)+(df q5):=by rfl
 have h:=Kz I;clear I J;delta Qz;go_in;go_wp2_with fail
 ·go_ret
  refine⟨aC ?_,gd⟩;have:=aH left (bF (q0,q1,q2,q3,q4,q5));have:=h.o;omega
 ·go_ret
  refine⟨aC ?_,gd⟩;have:=aH left (bF (q0,q1,q2,q3,q4,q5));have:=h.o;omega
 ·skip
  refine(yE K _ _ _ _ (q.gr gd) (by omega) (by omega)).mono ?_;rintro e w2 ⟨rfl,x2,rfl⟩;have bH:=fD (left - ↑q0.size - ↑q1.size) (cu q2) (by omega);go_wp2_with fail
  ·go_ret
   refine⟨aC ?_,gd⟩;have:=aH left (bF (q0,q1,q2,q3,q4,q5));have:=h.o;have:=aH (left - ↑q0.size - ↑q1.size) (cu q2);omega
  ·skip
   refine(vw O _ _ _ _ (B.gr gd) (by have:=aH (left - ↑q0.size - ↑q1.size) (cu q2);omega) (by have:=aH (left - ↑q0.size - ↑q1.size) (cu q2);omega)).mono ?_;rintro e w4 ⟨rfl,x4,rfl⟩;have bL:=fD (less (left - ↑q0.size - ↑q1.size) (cu q2)) (cz q4) (by have:=aH (left - ↑q0.size - ↑q1.size) (cu q2);omega);go_wp2_with fail
   ·go_ret
    refine⟨aC ?_,gd⟩;have:=aH left (bF (q0,q1,q2,q3,q4,q5));have:=h.o;have:=aH (left - ↑q0.size - ↑q1.size) (cu q2);have:=aH (less (left - ↑q0.size - ↑q1.size) (cu q2)) (cz q4);omega
   ·skip
    refine(pJ T _ _ _ _ (D.gr gd) (by have:=aH (left - ↑q0.size - ↑q1.size) (cu q2);have:=aH (less (left - ↑q0.size - ↑q1.size) (cu q2)) (cz q4);omega) (by have:=aH (left - ↑q0.size - ↑q1.size) (cu q2);have:=aH (less (left - ↑q0.size - ↑q1.size) (cu q2)) (cz q4);omega)).mono ?_;rintro e w5 ⟨rfl,x5,rfl⟩;have bR:=fD (less (less (left - ↑q0.size - ↑q1.size) (cu q2)) (cz q4)) (df q5) (by have:=aH (left - ↑q0.size - ↑q1.size) (cu q2);have:=aH (less (left - ↑q0.size - ↑q1.size) (cu q2)) (cz q4);omega);go_wp2_with fail
    ·go_ret
     refine⟨aC ?_,gd⟩;have:=aH left (bF (q0,q1,q2,q3,q4,q5));have:=h.o;have:=aH (left - ↑q0.size - ↑q1.size) (cu q2);have:=aH (less (left - ↑q0.size - ↑q1.size) (cu q2)) (cz q4);have:=aH (less (less (left - ↑q0.size - ↑q1.size) (cu q2)) (cz q4)) (df q5);omega
    ·skip
     go_ret;refine⟨aC ?_,gd⟩;have:=aH left (bF (q0,q1,q2,q3,q4,q5));have:=h.o;have:=aH (left - ↑q0.size - ↑q1.size) (cu q2);have:=aH (less (left - ↑q0.size - ↑q1.size) (cu q2)) (cz q4);have:=aH (less (less (left - ↑q0.size - ↑q1.size) (cu q2)) (cz q4)) (df q5);omega
theorem Gt(q0:ByteArray)(q1:ByteArray)(q2:List ByteArray)(q3:Bool)(q4:List (aX d))(q5:List (aD d))(h:ByteArray)(q:ByteArray)(B:List ByteArray)(D:Bool)(I:List (aX d))(J:List (aD d))(K:q0=h)(O:q1=q)(T:q2=B)(U:q3=D)(V:q4=I)(X:q5=J):((q0,q1,q2,q3,q4,q5):(aW d))=(h,q,B,D,I,J):=by
 exact Prod.ext_iff.2 ⟨K,Prod.ext_iff.2 ⟨O,Prod.ext_iff.2 ⟨T,Prod.ext_iff.2 ⟨U,Prod.ext_iff.2 ⟨V,X⟩⟩⟩⟩⟩
theorem Ep(fp fq:List Nat)(cs Y:Array Value)(x y:(aW d))(w:World)(Z:Rd.rd fp w cs.toList x)(hy:Rd.rd fq w Y.toList y):
  Qz 79 #[.agg cs,.agg Y] w (.bool (decide (x=y))):=by
 obtain⟨q0,q1,q2,q3,q4,q5⟩:=x;obtain⟨D,I,h,J,q,B⟩:=y;obtain⟨ax,ae,ay,ah,aZ,ai,rfl,-,bg,bq,K,O,T⟩:=aM q0 q1 q2 q3 q4 q5 Z;obtain⟨bB,aj,bH,ak,bL,au,rfl,-,bR,bX,U,V,X⟩:=aM D I h J q B hy;obtain⟨cB,cK,rfl,-,-,-⟩:=K.open;obtain⟨cO,dB,rfl,-,-,-⟩:=O.open;obtain⟨dS,dV,rfl,-,-,-⟩:=T.open;obtain⟨fe,fu,rfl,-,-,-⟩:=U.open;obtain⟨gB,gD,rfl,-,-,-⟩:=V.open;obtain⟨gF,gT,rfl,-,-,-⟩:=X.open;clear Z hy;delta Qz;go_in;go_wp2_with fail
 ·have ht:(!q0.toList==D.toList)=true:=by assumption
  go_ret;exact⟨aa (decide_eq_false fun e=>lg ht (congrArg (fun z:(aW d)=>z.1) e)).symm,gd⟩
 ·have ht:(!q1.toList==I.toList)=true:=by assumption
  go_ret;exact⟨aa (decide_eq_false fun e=>lg ht (congrArg (fun z:(aW d)=>z.2.1) e)).symm,gd⟩
 ·skip
  have e0:=Kz (str_eq (show(!q0.toList==D.toList)=false by assumption));have e1:=Kz (str_eq (show(!q1.toList==I.toList)=false by assumption));refine(yj ae aj _ _ q2 h _ (K.gr gd) (U.gr gd)).mono ?_;rintro e w2 ⟨rfl,x2,rfl⟩;go_wp2_with fail
  ·have ht:(!decide (q2=h))=true:=by assumption
   go_ret;exact⟨aa (decide_eq_false fun e=>iy ht (congrArg (fun z:(aW d)=>z.2.2.1) e)).symm,gd⟩
  ·have ht:(q3 !=J)=true:=by assumption
   go_ret;exact⟨aa (decide_eq_false fun e=>ET ht (congrArg (fun z:(aW d)=>z.2.2.2.1) e)).symm,gd⟩
  ·skip
   have e2:=Kz (iq (show(!decide (q2=h))=false by assumption));have e3:=Kz (Fa (show(q3 !=J)=false by assumption));refine(vM ah ak _ _ q4 q _ (O.gr gd) (V.gr gd)).mono ?_;rintro e w4 ⟨rfl,x4,rfl⟩;go_wp2_with fail
   ·have ht:(!decide (q4=q))=true:=by assumption
    go_ret;exact⟨aa (decide_eq_false fun e=>iy ht (congrArg (fun z:(aW d)=>z.2.2.2.2.1) e)).symm,gd⟩
   ·skip
    have e4:=Kz (iq (show(!decide (q4=q))=false by assumption));refine(pU ai au _ _ q5 B _ (T.gr gd) (X.gr gd)).mono ?_;rintro e w5 ⟨rfl,x5,rfl⟩;go_wp2_with fail
    ·have ht:(!decide (q5=B))=true:=by assumption
     go_ret;exact⟨aa (decide_eq_false fun e=>iy ht (congrArg (fun z:(aW d)=>z.2.2.2.2.2) e)).symm,gd⟩
    ·skip
     have e5:=Kz (iq (show(!decide (q5=B))=false by assumption));go_ret;exact⟨aa (decide_eq_true (Gt q0 q1 q2 q3 q4 q5 D I h J q B e0.o e1.o e2.o e3.o e4.o e5.o)).symm,gd⟩
theorem DL(fp:List Nat)(cs:Array Value)(x:(aW d))(w:World)(O:Rd.rd fp w cs.toList x)(hl:bF x≤1048576):
  Calls Tryz.prog 72 #[.agg cs] w fun e w'=>∃T fq,e=.returned (.agg T)∧Rd.rd fq w' T.toList x∧aY w fq∧Gr w w':=by
 obtain⟨q0,q1,q2,q3,q4,q5,bg,bq,U,bB,bH,V,bL,bR,X,rfl,rfl,-,Y,Z,ae,-,-,ah,-,-,ai,-,-⟩:=KV O;have q:bF (q0,q1,q2,q3,q4,q5)=(q0.size)+(q1.size)+(cu q2)+(cz q4)+(df q5):=by rfl
 have J:=Kz q;clear q O;go_in;go_wp2_with fail;refine(yF U _ _ _ (ae.gr gd) (by have:=J.o;have h2:q2.length≤cu q2:=bT ByteArray.size q2;omega)).mono ?_;rintro e w2 ⟨u2,g2,rfl,s2,B,x2,rfl⟩;obtain⟨aj,ak,rfl,-,-,-⟩:=s2.open;go_wp2_with fail;refine(vH V _ _ _ (ah.gr gd) (by have:=J.o;omega)).mono ?_;rintro e w4 ⟨u4,g4,rfl,K,D,x4,rfl⟩;obtain⟨au,ax,rfl,-,-,-⟩:=K.open;go_wp2_with fail;refine(pQ X _ _ _ (ai.gr gd) (by have:=J.o;omega)).mono ?_;rintro e w5 ⟨u5,g5,rfl,s5,I,x5,rfl⟩;obtain⟨ay,aZ,rfl,-,-,-⟩:=s5.open;go_wp2_with fail
 have h:aY w (g2++(g4++g5)):=by
  exact(aY.app (aY.of_le B (by simp<;>omega)) (SlR.lt s2) (aY.app D (SlR.lt K) I (by simp<;>omega) (by simp<;>omega)) (by simp<;>omega) (by simp<;>omega))
 exact bodyPost_ret (v:=.agg #[.string q0,.string q1,.slice aj q2.length ak,.bool q3,.slice au q4.length ax,.slice ay q5.length aZ]) (by simp[results,Tryz.results72,go_sem]) rfl
  ⟨_,_,rfl,pI q0 q1 q2 q3 q4 q5 Y Z (SlR.moved s2 B gd (by simp)) (SlR.moved K D gd (by simp)) (SlR.moved s5 I gd (by simp)),h,gd⟩
def gz(xs:List (aW d)):Nat:=wtL bF xs
theorem BV(fp:List Nat)(u:Value)(xs:List (aW d))(left:Int)(w:World)(hu:SlR fp w u xs)(Z:0≤left)(h1:left≤1048576):
  Qz 34 #[u,.int .i64 left] w (.int .i64 (less left (gz xs))):=by
 obtain⟨a,ca,rfl,g1,g2,g3⟩:=hu.open
 by_cases J:left - xs.length<0
 ·have hle:less left (gz xs)= -1:=by unfold less gz wtL;rw[if_pos (by omega)]
  have HL:=Kz hle;clear hle;delta Qz;go_in
  go_wp2
  go_ret;exact⟨aC HL.o.symm,Gr.refl w⟩
 ·have I:less left xs.length=left - xs.length:=by unfold less;rw[if_neg J]
  have T:=Kz I;clear I;delta Qz;go_in
  go_wp2
  go_loopw [5,1] (fun K s1 wr=>∃(k:Nat) (m:Int),k≤xs.length∧0≤m∧m≤1048576∧Ky (m=less left (xs.length+((xs.take k).map bF).sum))∧Gr w wr∧K=.int .i64 k∧s1=.int .i64 m) (fun K _ _=>xs.length - (intOf K).toNat)
  case atStart=>exact⟨0,_,by omega,by omega,by omega,Kz (by simp[T.o]),Gr.refl w,rfl,rfl⟩
  case round=>
   obtain⟨k,m,hk,ae,ah,hm,⟨x,rfl⟩,rfl,rfl⟩:=hrel
   by_cases h:k<xs.length
   ·obtain⟨b,off,rfl,hb⟩:=g3 k h
    have q:=Kz (eZ bF xs k h);obtain⟨q0,q1,q2,q3,q4,q5,ai,aj,ak,au,ax,ay,aZ,bg,bq,bB,U,V,bH,bL,bR,-,-,bX,-,-,cB,-,-,z0,z1,z2,z3,z4,z5,-⟩:=Lf hu h (Gr.refl _);have O:=Lb U V;have Y:=fD m (bF xs[k]) (by omega);clear g3
    go_wp2_with (go_at_call 64;refine(DC _ _ xs[k] _ _ (Rd.gr O ((Gr.refl w).ext _)) (by omega) (by omega)).mono ?_;rintro e w1 ⟨rfl,y,rfl⟩)
    ·have D:less m (bF xs[k])<0:=by assumption
     go_ret;refine⟨aC ?_,gd⟩;have e:=hm.o;subst e;rw[fE,Nat.add_assoc,←q.o] at D;exact(jV D (Nat.add_le_add_left (gJ bF xs (k+1)) _) Z).symm
    ·have D:0≤less m (bF xs[k]):=by assumption
     refine⟨⟨k+1,_,by omega,D,by omega,Kz ?_,gd,by go_num,rfl⟩,by simp[intOf];omega⟩;rw[q.o,hm.o,fE,Nat.add_assoc]
   ·have X:k=xs.length:=by omega
    subst X;have B:=hm.o;rw[take_length] at B;have HM:=Kz B;clear B hm
    go_wp2
    go_ret;exact⟨aC HM.o,gd⟩
theorem BZ(fp fq:List Nat)(u v:Value)(xs q:List (aW d))(w:World)(hu:SlR fp w u xs)(hv:SlR fq w v q):
  Qz 47 #[u,v] w (.bool (decide (xs=q))):=by
 obtain⟨a,ca,rfl,h1,h2,U⟩:=hu.open;obtain⟨c,cc,rfl,g1,g2,g3⟩:=hv.open
 by_cases D:xs.length=q.length
 ·have J:=Kz D
  have V:((xs.length:Int)!=(q.length:Int))=false:=by simp[D]
  clear D;delta Qz;go_in
  go_wp2
  go_loopw [5] (fun K wr=>∃k:Nat,k≤xs.length∧xs.take k=q.take k∧Gr w wr∧K=.int .i64 k) (fun K _=>xs.length - (intOf K).toNat)
  case atStart=>exact⟨0,by omega,rfl,Gr.refl w,rfl⟩
  case round=>
   obtain⟨k,hk,ht,⟨x,rfl⟩,rfl⟩:=hrel
   by_cases I:k<xs.length
   ·have B:k<q.length:=by have:=J.o;omega
    obtain⟨b,off,rfl,hb⟩:=U k I;obtain⟨b',ai,rfl,aj⟩:=g3 k B;obtain⟨q0,q1,q2,q3,q4,q5,ak,au,ax,ay,aZ,bg,bq,bB,bH,bL,X,Y,bR,bX,cB,-,-,cK,-,-,cO,-,-,z0,z1,z2,z3,z4,z5,-⟩:=Lf hu I (Gr.refl _);have O:=Lb X Y;obtain⟨p0,p1,p2,p3,p4,p5,dB,dS,dV,fe,fu,gB,gD,gF,gT,gV,Z,ae,gX,ik,iw,-,-,kr,-,-,ku,-,-,ky,lq,oH,oL,o5,o9,-⟩:=Lf hv B (Gr.refl _);have T:=Lb Z ae;have hT:=Kz ht;clear U g3 ht;go_wp2_with fail;refine wg ?_
    repeat(go_big_quiet_step ((go_at_call 79;refine aG (Ep _ _ _ _ xs[k] q[k] _ (Rd.gr O ?_) (Rd.gr T ?_))<;>exact((Gr.refl w).ext _).ext _)))
    refine wq fun nx=>?_
    go_wp2
    ·have ht:(!decide (xs[k]=q[k]))=true:=by assumption
     go_ret;have E:xs≠q:=fun e=>iy ht (by subst e;rfl)
     exact⟨aa (decide_eq_false E).symm,gd⟩
    ·have ht:(!decide (xs[k]=q[k]))=false:=by assumption
     have e2:=iq ht;refine⟨⟨k+1,by omega,?_,gd,by go_num⟩,by simp[intOf];omega⟩;rw[List.take_succ_eq_append_getElem I,List.take_succ_eq_append_getElem B,hT.o,e2]
   ·have ah:k=xs.length:=by omega
    subst ah
    have e:xs=q:=by
     have h:=ht;have h':=J.o;rw[take_length,h',take_length] at h;exact h
    have E:=Kz e;clear e ht
    go_wp2
    go_ret;exact⟨aa (decide_eq_true E.o).symm,gd⟩
 ·have V:((xs.length:Int)!=(q.length:Int))=true:=by simp;omega
  have e:xs≠q:=fun e=>D (by rw[e])
  have E:=Kz e;clear e D;delta Qz;go_in
  go_wp2
  go_ret;exact⟨aa (decide_eq_false E.o).symm,Gr.refl w⟩
theorem Tryz.Ie:(Tryz.prog.info? 128).map (fun i=>(i.zero,i.size,i.bytes))=some (some (.agg #[.string ByteArray.empty,.string ByteArray.empty,.slice none 0 0,.bool false,.slice none 0 0,.slice none 0 0]),6,112):=by kernel_rfl
theorem Db(fp:List Nat)(u:Value)(xs:List (aW d))(w:World)(hu:SlR fp w u xs)(hlen:gz xs≤1048576):
  Calls Tryz.prog 40 #[u] w fun e w'=>∃v fq,e=.returned v∧SlR fq w' v xs∧aY w fq∧Gr w w':=by
 obtain⟨a,ca,rfl,h1,h2,h3⟩:=hu.open;have bX:xs.length≤1048576:=le_trans (bT bF xs) hlen;obtain⟨i0,hi,ae,ah,ai⟩:=info_parts Tryz.Ie;have O:=fun(W:World)=>run_make (P:=Tryz.prog) W 37 128 i0 (.agg #[.string ByteArray.empty,.string ByteArray.empty,.slice none 0 0,.bool false,.slice none 0 0,.slice none 0 0]) Tryz.underlying37 hi ae .i64 .i64 xs.length xs.length (by omega) (by omega) (by rw[ai];omega) (by omega)
 rw[ah] at O;clear hi ae ah ai;simp only[Int.toNat_natCast] at O;have T:=size_madeCells (Value.agg #[.string ByteArray.empty,.string ByteArray.empty,.slice none 0 0,.bool false,.slice none 0 0,.slice none 0 0]).cells (xs.length*6);generalize madeCells (Value.agg #[.string ByteArray.empty,.string ByteArray.empty,.slice none 0 0,.bool false,.slice none 0 0,.slice none 0 0]).cells (xs.length*6)=C0 at O T;have HS:=Kz T;have ay:=Kz hlen;clear T hlen;go_in
 go_wp2
 go_loopw [4] (fun s4 wr=>∃(k:Nat) (C:Array Value) (x:Ext) (fps:List (List Nat)),C.size=xs.length*6∧iF w w.heap.size wr C k fps xs∧wr=(w.alloc (.cells C 128)).ext x∧s4=.int .i64 k) (fun s4 _=>xs.length - (intOf s4).toNat)
 case atStart=>exact⟨0,C0,⟨#[],0⟩,[],HS.o,iF.start _ _ (le_refl _) (by simp),(lX _).symm,rfl⟩
 case round=>
  obtain⟨k,C,x,fps,hC,hp,rfl,rfl⟩:=hrel;have aZ:=Kz hC;have hk:=hp.le
  by_cases K:k<xs.length
  ·obtain⟨b,off,rfl,hb⟩:=h3 k K
   have aj:=dI bF xs K;obtain⟨q0,q1,q2,q3,q4,q5,cB,cK,cO,dB,dS,dV,fe,fu,gB,gD,bg,bq,gF,gT,gV,-,-,gX,-,-,ik,-,-,z0,z1,z2,z3,z4,z5,-⟩:=Lf hu K (Gr.refl _);have ax:=Lb bg bq;have y0:k*6<C.size:=by omega
   have y1:k*6+1<C.size:=by omega
   have y2:k*6+2<C.size:=by omega
   have y3:k*6+3<C.size:=by omega
   have y4:k*6+4<C.size:=by omega
   have y5:k*6+5<C.size:=by omega
   have iw:bF xs[k]≤1048576:=le_trans aj ay.o;have ak:k*6+6≤C.size:=by omega
   have HD:=Kz ak;clear hC h3 aj ak
   go_wp2_with (go_at_call 72;refine(DL _ _ xs[k] _ (Rd.gr ax gd) (by omega)).mono ?_;rintro e w1 ⟨ds,fq,rfl,hs,hf,y,rfl⟩;have au:=hs;generalize xs[k]=yr at au;obtain⟨U,V,X,Y,Z,r5⟩:=yr;obtain⟨kr,ku,ky,lq,oH,oL,rfl,-,o5,o9,bB,bH,bL⟩:=aM U V X Y Z r5 au;obtain⟨h,q,rfl,-,-,-⟩:=bB.open;obtain⟨B,D,rfl,-,-,-⟩:=bH.open;obtain⟨I,J,rfl,-,-,-⟩:=bL.open)
   rw[iV,←CX];refine⟨⟨k+1,setRow C (k*6) [.string U,.string V,.slice h X.length q,.bool Y,.slice B Z.length D,.slice I r5.length J],x.comp y,fps++[fq],?_,?_,rfl,by go_num⟩,by simp[intOf];omega⟩
   ·rw[setRow_size];exact aZ.o
   ·refine hp.lT K (C':=setRow C (k*6) [.string U,.string V,.slice h X.length q,.bool Y,.slice B Z.length D,.slice I r5.length J]) (cs:=[.string U,.string V,.slice h X.length q,.bool Y,.slice B Z.length D,.slice I r5.length J]) ?_ hf (fun j hj=>jW _ _ _ _ hj) (jS _ _ _ HD.o)
    exact hs
  ·have bR:k=xs.length:=by omega
   subst bR;obtain⟨fq,hs,hf⟩:=hp.done (iD _ x) (cap:=xs.length) (le_refl _) (by unfold bn;omega);have HF:=Kz hs;clear hs hC
   go_wp2
   go_ret;exact⟨_,fq,rfl,HF.o,hf,gd⟩
abbrev af(d:Nat):=List bC×List (aW d)
def aP(x:(af d)):Nat:=dH x.1+gz x.2
theorem aB(q0:List bC)(q1:List (aW d))(h:Rd.rd (α:=(af d)) fp w cs.toList (q0,q1)):
  ∃q D B I,cs=#[q,B]∧fp=(D++I)∧SlR D w q q0∧SlR I w B q1:=by
 generalize J:cs.toList=l at h;obtain⟨_,_,_,_,rfl,rfl,⟨q,rfl,K⟩,⟨B,rfl,O⟩⟩:=h;exact⟨_,_,_,_,Array.toList_inj.1 (by simpa using J),rfl,K,O⟩
theorem yt{c:Array Value}{x:(af d)}(h:Rd.rd fp w c.toList x):
 ∃q0 q1 D q I J B K,(q0,q1)=x∧c=#[.slice D q0.length q,.slice J q1.length B]∧Ky (fp=(I++K))∧SlR I w (.slice D q0.length q) q0∧q0.length≤q∧q0.length≤140737488351232∧SlR K w (.slice J q1.length B) q1∧q1.length≤B∧q1.length≤140737488351232:=by
 obtain⟨q0,q1⟩:=x;obtain⟨ae,I,ah,K,rfl,Z,O,T⟩:=aB q0 q1 h;obtain⟨D,q,rfl,U,V,-⟩:=O.open;obtain⟨J,B,rfl,X,Y,-⟩:=T.open;exact⟨_,_,_,_,_,_,_,_,rfl,rfl,Kz Z,O,U,V,T,X,Y⟩
theorem nN{x:(af d)}(h:Rd.rd (α:=(af d)) fp w cs.toList x):
  ∃q J B D K I,cs=#[.slice q J B,.slice D K I]:=by
 obtain⟨q0,q1⟩:=x;obtain⟨U,V,X,Y,rfl,-,O,T⟩:=aB q0 q1 h;obtain⟨q,B,rfl,-,-,-⟩:=O.open;obtain⟨D,I,rfl,-,-,-⟩:=T.open;exact⟨_,_,_,_,_,_,rfl⟩
theorem rH(q0:List bC)(q1:List (aW d)){h:Value}{q:List Nat}{B:Value}{D:List Nat}(I:SlR q w h q0)(J:SlR D w B q1):
  Rd.rd (α:=(af d)) ((q++D)) w [h,B] (q0,q1):=⟨_,_,_,_,rfl,rfl,⟨_,rfl,I⟩,⟨_,rfl,J⟩⟩
theorem kI(fp:List Nat)(cs:Array Value)(x:(af d))(left:Int)(w:World)(B:Rd.rd fp w cs.toList x)(h0:0≤left)(h1:left≤1048576):
  Qz 7 #[.agg cs,.int .i64 left] w (.int .i64 (less left (aP x))):=by
 obtain⟨q0,q1,O,T,D,U,V,I,rfl,rfl,-,J,X,Y,K,Z,ae⟩:=yt B;have h:aP (q0,q1)=(dH q0)+(gz q1):=by rfl
 have q:=Kz h;clear h B;delta Qz;go_in;go_wp2_with fail;refine(yI D _ _ _ _ (J.gr gd) (by omega) (by omega)).mono ?_;rintro e w0 ⟨rfl,x0,rfl⟩;have ah:=fD (left) (dH q0) (by omega);go_wp2_with fail
 ·go_ret
  refine⟨aC ?_,gd⟩;have:=aH left (aP (q0,q1));have:=q.o;have:=aH (left) (dH q0);omega
 ·skip
  refine(BV I _ _ _ _ (K.gr gd) (by have:=aH (left) (dH q0);omega) (by have:=aH (left) (dH q0);omega)).mono ?_;rintro e w1 ⟨rfl,x1,rfl⟩;have ai:=fD (less (left) (dH q0)) (gz q1) (by have:=aH (left) (dH q0);omega);go_wp2_with fail
  ·go_ret
   refine⟨aC ?_,gd⟩;have:=aH left (aP (q0,q1));have:=q.o;have:=aH (left) (dH q0);have:=aH (less (left) (dH q0)) (gz q1);omega
  ·skip
   go_ret;refine⟨aC ?_,gd⟩;have:=aH left (aP (q0,q1));have:=q.o;have:=aH (left) (dH q0);have:=aH (less (left) (dH q0)) (gz q1);omega
theorem Cs(q0:List bC)(q1:List (aW d))(h:List bC)(q:List (aW d))(B:q0=h)(D:q1=q):((q0,q1):(af d))=(h,q):=by
 exact Prod.ext_iff.2 ⟨B,D⟩
theorem yl(fp fq:List Nat)(cs K:Array Value)(x y:(af d))(w:World)(O:Rd.rd fp w cs.toList x)(T:Rd.rd fq w K.toList y):
  Qz 16 #[.agg cs,.agg K] w (.bool (decide (x=y))):=by
 obtain⟨q0,q1⟩:=x;obtain⟨h,q⟩:=y;obtain⟨ae,U,ah,V,rfl,-,B,D⟩:=aB q0 q1 O;obtain⟨ai,X,aj,Y,rfl,-,I,J⟩:=aB h q T;obtain⟨ak,au,rfl,-,-,-⟩:=B.open;obtain⟨ax,ay,rfl,-,-,-⟩:=D.open;obtain⟨aZ,bg,rfl,-,-,-⟩:=I.open;obtain⟨bq,bB,rfl,-,-,-⟩:=J.open;clear O T;delta Qz;go_in;go_wp2_with fail;refine(yw U X _ _ q0 h _ (B.gr gd) (I.gr gd)).mono ?_;rintro e w0 ⟨rfl,x0,rfl⟩;go_wp2_with fail
 ·have ht:(!decide (q0=h))=true:=by assumption
  go_ret;exact⟨aa (decide_eq_false fun e=>iy ht (congrArg (fun z:(af d)=>z.1) e)).symm,gd⟩
 ·skip
  have Z:=Kz (iq (show(!decide (q0=h))=false by assumption));refine(BZ V Y _ _ q1 q _ (D.gr gd) (J.gr gd)).mono ?_;rintro e w1 ⟨rfl,x1,rfl⟩;go_wp2_with fail
  ·have ht:(!decide (q1=q))=true:=by assumption
   go_ret;exact⟨aa (decide_eq_false fun e=>iy ht (congrArg (fun z:(af d)=>z.2) e)).symm,gd⟩
  ·skip
   have e1:=Kz (iq (show(!decide (q1=q))=false by assumption));go_ret;exact⟨aa (decide_eq_true (Cs q0 q1 h q Z.o e1.o)).symm,gd⟩
theorem kG(fp:List Nat)(cs:Array Value)(x:(af d))(w:World)(J:Rd.rd fp w cs.toList x)(hl:aP x≤1048576):
  Calls Tryz.prog 11 #[.agg cs] w fun e w'=>∃K fq,e=.returned (.agg K)∧Rd.rd fq w' K.toList x∧aY w fq∧Gr w w':=by
 obtain⟨q0,q1,ai,aj,O,ak,au,T,rfl,rfl,-,U,-,-,V,-,-⟩:=yt J;have q:aP (q0,q1)=(dH q0)+(gz q1):=by rfl
 have X:=Kz q;clear q J;go_in;go_wp2_with fail;refine(yV O _ _ _ (U.gr gd) (by have:=X.o;omega)).mono ?_;rintro e w0 ⟨u0,g0,rfl,I,B,x0,rfl⟩;obtain⟨Y,Z,rfl,-,-,-⟩:=I.open;go_wp2_with fail;refine(Db T _ _ _ (V.gr gd) (by have:=X.o;omega)).mono ?_;rintro e w1 ⟨u1,g1,rfl,s1,D,x1,rfl⟩;obtain⟨ae,ah,rfl,-,-,-⟩:=s1.open;go_wp2_with fail
 have h:aY w (g0++g1):=by
  exact(aY.app (aY.of_le B (by simp<;>omega)) (SlR.lt I) D (by simp<;>omega) (by simp<;>omega))
 exact bodyPost_ret (v:=.agg #[.slice Y q0.length Z,.slice ae q1.length ah]) (by simp[results,Tryz.results11,go_sem]) rfl
  ⟨_,_,rfl,rH q0 q1 (SlR.moved I B gd (by simp)) (SlR.moved s1 D gd (by simp)),h,gd⟩
def nth{α:Type}(l:List α)(i:Int):Option α:=if 0≤i then l[i.toNat]? else none
theorem IY{α:Type}(l:List α)(k:Nat):nth l (k:Int)=l[k]?:=by unfold nth;rw[if_pos (by omega)];simp
theorem gG{α:Type}{l:List α}{k:Nat}(h:k<l.length):nth l (k:Int)=some l[k]:=by rw[IY];simp[h]
theorem jY{α:Type}{l:List α}{i:Int}(h:i<0∨(l.length:Int) - 1<i):nth l i=none:=by
 unfold nth
 split
 ·exact List.getElem?_eq_none (by omega)
 ·rfl
def bW(ss:List bC)(n:ByteArray):Option bC:=ss.find? fun s=>decide (s.1=n)
def dJ(rs:List (aW d))(n:ByteArray):Option (aW d):=rs.find? fun r=>decide (r.1=n)
def ek(xs:List aQ)(n:ByteArray):Option aQ:=xs.find? fun a=>decide (a.1=n)
def zI(es:List (aX d))(o:ag):Option (aX d):=es.find? fun e=>decide (e.1=o)
def dE:bC:=(ByteArray.empty,[])
def fH:aW d:=(ByteArray.empty,ByteArray.empty,[],false,[],[])
def dR:aQ:=(ByteArray.empty,0,0,false)
def dQ(t:List aT)(id:Int):Int:=idxOf (fun n=>decide (n.1=id)) t
def leftOf(g:af d)(n:aT):ByteArray:=((dJ g.2 n.2.2.2.2.1).getD fH).2.1
def zB(g:af d)(t:List aT)(i:Int):ByteArray:=match nth t i with|none=>ByteArray.empty|some n=>leftOf g n
def ed(g:af d)(t:List aT)(x:av):Option aQ:=
 if dQ t x.1<0 then none else ek ((bW g.1 (zB g t (dQ t x.1))).getD dE).2 x.2
def nL(v:Int)(lit:Bool):Bool:=decide (-1000000≤v∧v≤1000000)&&(lit||decide (v=0))
def KD(walk:Int→Int→ByteArray→Int):List Int→List ByteArray→Int→Int→Int
 |c::cs,s::ss,k,at_=>if c≠at_ then -1 else if walk at_ k s<0 then -1 else KD walk cs ss (k+1) (walk at_ k s)
 |_,_,_,at_=>at_
def zK(g:af d)(t:List aT):Nat→Int→Int→Int→ByteArray→Int
 |0,_,_,_,_=>-1
 |f+1,i,parent,place,sym=>
  match nth t i with
  |none=>-1
  |some n=>match dJ g.2 n.2.2.2.2.1 with
   |none=>-1
   |some r=>if r.2.1=sym∧n.2.1=parent∧n.2.2.1=place∧n.2.2.2.2.2.length=r.2.2.1.length∧nL n.2.2.2.1 r.2.2.2.1=true
    then KD (fun at_ k s=>zK g t f at_ i k s) n.2.2.2.2.2 r.2.2.1 1 (i+1) else -1
def qa(t:List aT):Prop:=∀i (h:i<t.length),(1≤t[i].1∧t[i].1≤999)∧∀j (q:j<t.length),j<i→t[j].1≠t[i].1
noncomputable def kY(g:af d)(t:List aT)(sym:ByteArray):Bool:=
 @decide ((1≤t.length∧t.length≤16)∧qa t∧zK g t (t.length+1) 0 (-1) 0 sym=t.length) (Classical.propDecidable _)
noncomputable def fP(g:af d)(t:List aT):Bool:=kY g t (zB g t 0)
def ll(g:af d)(n:aT):List av:=((bW g.1 (leftOf g n)).getD dE).2.map fun a=>(n.1,a.1)
noncomputable def bU(g:af d)(t:List aT):List av:=if fP g t=true then t.flatMap (ll g) else[]
theorem xV{g:af d}(h1:1≤t.length∧t.length≤16)(h:qa t)(q:zK g t (t.length+1) 0 (-1) 0 sym=t.length):kY g t sym=true:=by
 unfold kY;exact @decide_eq_true _ (Classical.propDecidable _) ⟨h1,h,q⟩
theorem lJ{g:af d}(h:¬((1≤t.length∧t.length≤16)∧qa t∧zK g t (t.length+1) 0 (-1) 0 sym=t.length)):kY g t sym=false:=by
 unfold kY;exact @decide_eq_false _ (Classical.propDecidable _) h
theorem jv{g:af d}:kY g t sym=true↔(1≤t.length∧t.length≤16)∧qa t∧zK g t (t.length+1) 0 (-1) 0 sym=t.length:=by
 unfold kY;exact @decide_eq_true_iff _ (Classical.propDecidable _)
theorem Df{α:Type}(p:α→Bool)(xs:List α):idxOf p xs<xs.length∨idxOf p xs= -1:=by
 induction xs with
 |nil=>right;rfl
 |cons x xs h=>
  simp only[idxOf,List.length_cons]
  split
  ·left;omega
  ·split<;>omega
theorem Hz{w:Int→Int→ByteArray→Int}{n:Int}(hw:∀a k s,0≤w a k s→a<w a k s∧w a k s≤n):∀(cs:List Int) (ss:List ByteArray) (k a:Int),a≤n→0≤KD w cs ss k a→a≤KD w cs ss k a∧KD w cs ss k a≤n:=by
 intro cs
 induction cs with
 |nil=>intro ss k a B h;simp only[KD];omega
 |cons c cs D=>
  intro ss k a B h
  cases ss with
  |nil=>simp only[KD];omega
  |cons s ss=>
   simp only[KD] at h ⊢
   by_cases h1:c≠a
   ·rw[if_pos h1] at h;omega
   ·rw[if_neg h1] at h ⊢
    by_cases q:w a k s<0
    ·rw[if_pos q] at h;omega
    ·rw[if_neg q] at h ⊢
     have:=hw a k s (by omega);have:=D ss (k+1) (w a k s) (by omega) h;omega
theorem rX(g:af d)(t:List aT):∀(f:Nat) (i parent place:Int) (sym:ByteArray),0≤zK g t f i parent place sym→i<zK g t f i parent place sym∧zK g t f i parent place sym≤t.length:=by
 intro f
 induction f with
 |zero=>intro i parent place sym h;simp[zK] at h
 |succ f q=>
  intro i parent place sym h
  rw[zK] at h ⊢
  cases hn:nth t i with
  |none=>simp[hn] at h
  |some n=>
   have hi:i+1≤t.length:=by
    unfold nth at hn
    split at hn
    ·have:=(List.getElem?_eq_some_iff.1 hn).1;omega
    ·cases hn
   simp only[hn] at h ⊢
   cases hr:dJ g.2 n.2.2.2.2.1 with
   |none=>simp[hr] at h
   |some r=>
    simp only[hr] at h ⊢
    split at h
    ·rename_i hc
     rw[if_pos hc];have:=Hz (w:=fun at_ k s=>zK g t f at_ i k s) (n:=t.length) (fun a k s hs=>q a i k s hs) _ _ _ _ hi h;omega
    ·omega
theorem Ia{w:Int→Int→ByteArray→Int}(hw:∀a k s,-1≤w a k s):∀(cs:List Int) (ss:List ByteArray) (k a:Int),-1≤a→-1≤KD w cs ss k a:=by
 intro cs
 induction cs with
 |nil=>intro ss k a h;simpa only[KD] using h
 |cons c cs q=>
  intro ss k a h
  cases ss with
  |nil=>simpa only[KD] using h
  |cons s ss=>
   simp only[KD]
   split
   ·omega
   ·split
    ·omega
    ·exact q _ _ _ (hw _ _ _)
def Found{α:Type}[Rd α](fp:List Nat)(w:World)(o:Option α)(z:α)(e:Ending)(w':World):Prop:=
 ∃es fq,e=.returned (.tuple #[.agg es,.bool o.isSome])∧Rd.rd fq w' es.toList (o.getD z)∧(∀c∈fq,c∈fp∨w.heap.size≤c)∧Gr w w'
def Made{α:Type}[Rd α](w:World)(x:α)(e:Ending)(w':World):Prop:=
 ∃h fq,e=.returned (.agg h)∧Rd.rd fq w' h.toList x∧aY w fq∧Gr w w'
theorem CR(w:World):Rd.rd (α:=bC) ([]++[]) w [.string ByteArray.empty,.slice none 0 0] dE:=iQ _ _ (by decide) (SlR.nil w)
theorem CE(w:World):Rd.rd (α:=aW d) ([]++([]++([]++([]++([]++[]))))) w [.string ByteArray.empty,.string ByteArray.empty,.slice none 0 0,.bool false,.slice none 0 0,.slice none 0 0] fH:=
 pI _ _ _ _ _ _ (by decide) (by decide) (SlR.nil w) (SlR.nil w) (SlR.nil w)
theorem oD(w:World):Rd.rd (α:=aQ) ([]++([]++([]++[]))) w [.string ByteArray.empty,.int .i64 0,.int .i64 0,.bool false] dR:=jk _ _ _ _ (by decide) (by decide) (by decide)
theorem Tryz.tC:(Tryz.prog.info? 165).map (fun i=>(i.zero,i.size,i.bytes))=some (some (.agg #[.int .i64 0,.int .i64 0,.int .i64 0,.int .i64 0,.string ByteArray.empty,.string ByteArray.empty,.slice none 0 0]),7,88):=by kernel_rfl
theorem pE{α:Type}[Rd α]{w0:World}{e:TypeId}{v:Value}{fps:List (List Nat)}{xs:List α}(h:bE w0 e w v fps xs){fq:List Nat}(q:aY w fq):∀b,v.ownBlock=some b→b∉[fq].flatten:=by
 intro b hb hm
 have h1:=(h.base b hb).2;have B:=q.2 b (by simpa using hm);omega
theorem kD{w0:World}{fps:List (List Nat)}{fq:List Nat}(h:aY w0 fps.flatten)(q:∀b∈fps.flatten,b<w.heap.size)(hw:w0.heap.size≤w.heap.size)(k:aY w fq):aY w0 (fps++[fq]).flatten:=by
 have:=h.append hw q k;simpa using this
theorem Af(hE:∀(fp:List Nat) (cs:Array Value) (x:GE d) (w:World) (hx:Rd.rd fp w cs.toList x) (hl:wtE d x≤1048576),Calls Tryz.prog 162 #[.agg cs] w (Made w x))
  (fp:List Nat) (cs:Array Value) (x:aA d) (w:World) (hx:Rd.rd fp w cs.toList x) (hl:aS x≤1048576):
  Calls Tryz.prog 162 #[.agg cs] w (Made w x):=by
 obtain⟨q0,q1,q2,q3,q4,q5,q6,X,Y,fe,rfl,rfl,-,Z,ae,ah,ai,aj,ak,au,dS,dV⟩:=KU hx;have I:=au.op3
 have J:fC q6≤1048576:=by
  have h:q4.size+q5.size+fC q6≤1048576:=hl;omega
 have fu:q6.length≤1048576:=le_trans (bT (wtE _) q6) J;have HW:=Kz J;have H0:=Kz (And.intro Z (And.intro ae (And.intro ah (And.intro ai (And.intro aj ak)))));obtain⟨i0,hi,ax,ay,aZ⟩:=info_parts Tryz.tC;have U:=Kz (And.intro hi (And.intro ax (And.intro ay aZ)));clear hi ax ay aZ hx hl J Z ae ah ai aj ak;go_in;go_wp2_with fail;generalize K:((w.alloc (.cells #[.int .i64 q0,.int .i64 q1,.int .i64 q2,.int .i64 q3,.string q4,.string q5,.slice X q6.length Y] 165)).alloc (.cells #[.int .i64 0,.int .i64 0,.int .i64 0,.int .i64 0,.string ⟨#[]⟩,.string ⟨#[]⟩,.slice none 0 0] 165))=B;have gB:Gr w B:=gb K;obtain⟨gD,gF,gT,gV,gX,ik,bX⟩:=kb7 K (w.heap.size) (.int .i64 q0) (.int .i64 q1) (.int .i64 q2) (.int .i64 q3) (.string q4) (.string q5) (.slice X q6.length Y);have sB:B.heap.size=w.heap.size+2:=szB K;have EB:=Kz K;clear K
 go_loopw [4,3] (fun s4 s3 wr=>∃(k:Nat) (fps:List (List Nat)),k≤q6.length∧Ky (aY B fps.flatten)∧Gr B wr∧bE B 165 wr s3 fps (q6.take k)∧s4=.int .i64 k) (fun s4 _ _=>q6.length - (intOf s4).toNat)
 case atStart=>exact⟨0,[],by omega,Kz (by simpa using aY.nil B),gd,bE.kF (α:=GE d) (w0:=B) (w:=B) 165 (le_refl _) (by omega),rfl⟩
 case round=>
  obtain⟨k,fps,hk,HF,hg,hown,rfl⟩:=hrel
  rename World=>W1
  have HG:=Kz hg;have V:=Kz hown;obtain⟨ra,rc,q⟩:=hown.form;have y6:=bX _ hg;have O:(q6.take k).length=k:=by simp;omega
  rw[O] at q;have HL:=Kz O;have zx:=blk y6;have bg:=gB.trans hg;have bq:=Kz bg;subst q;clear hg hown O bg
  by_cases D:k<q6.length
  ·obtain⟨d1,rfl⟩:∃e,d=e+1:=by
    cases d with
    |zero=>exact PEmpty.elim (q6[k])
    |succ e=>exact⟨e,rfl⟩
   have bB:wtE (d1+1) q6[k]≤1048576:=le_trans (dI (wtE _) q6 D) HW.o;have cB:=Kz bB;obtain⟨b,off,rfl,hb⟩:=I k D;obtain⟨p0,p1,p2,p3,p4,p5,p6,iw,kr,ku,ky,cK,cO,-,-,-,-,-,-,-,-,-,z0,z1,z2,z3,z4,z5,z6,zb⟩:=Lc au D bq.o;clear I bB;go_wp2_with fail;refine(hE _ _ q6[k] _ (Rd.gr (by rw[←cK.o];exact cO.o) (tg bq)) cB.o).mono ?_;rintro e w1 ⟨ds,fq,rfl,hs,hf,y,rfl⟩;have HS:=Kz hs;have bH:=Kz hf;obtain⟨r0,r1,r2,r3,r4,r5,lq,oH,oL,rfl⟩:=eO (show Rd.rd (α:=aA d1) fq _ ds.toList _ from hs);clear hs hf
   go_wp2_with (first|(at_builtin;refine bP (α:=GE (d1+1)) (w0:=B) (tg HG) rfl _ _ 163 rfl 165 i0 _ _ Tryz.underlying163 U.o.1 U.o.2.1 U.o.2.2.1 U.o.2.2.2 rfl _ fps _ (by rfl) (V.o.gr gd) _ [fq] [q6[k]] (by rfl) (eT.one (by simp) (Rd.gr HS.o gd)) (pE V.o bH.o) (by rw[HL.o];unfold maxLen;simp;omega) (by rw[HL.o];simp;omega) ?_;intro v3 w3 h1 h2 h3 T;replace h1:=Kz h1;replace T:=Kz T;clear h2 h3))
   refine⟨⟨k+1,fps++[fq],by omega,Kz (kD HF.o (bE.lt V.o) (HG.o.size) bH.o),T.o,?_,by go_num⟩,by simp[intOf];omega⟩;have e:q6.take (k+1)=q6.take k++[q6[k]]:=List.take_succ_eq_append_getElem D;rw[e];exact h1.o
  ·have dB:k=q6.length:=by omega
   subst dB;obtain⟨y,rfl⟩:=HG.o;obtain⟨fr,hs,bL⟩:=V.o.fresh (by rw[HL.o];unfold bn;omega) HF.o;rw[take_length] at hs;have HS:=Kz hs;have bR:=Kz bL;clear hs bL;obtain rfl:=EB.o;obtain⟨h0,h1,h2,h3,T,h5⟩:=H0.o;go_wp2_with fail
   exact bodyPost_ret (v:=.agg #[.int .i64 q0,.int .i64 q1,.int .i64 q2,.int .i64 q3,.string q4,.string q5,.slice ra q6.length rc])
    (by simp[results,Tryz.results162,go_sem]) rfl ⟨_,_,rfl,bJ q0 q1 q2 q3 q4 q5 q6 h0 h1 h2 h3 T h5 (SlR.moved HS.o bR.o gd (by simp)),bR.o.of_le (by simp<;>omega),gd⟩
theorem xX:(d:Nat)→∀(fp:List Nat) (cs:Array Value) (x:GE d) (w:World) (h:Rd.rd fp w cs.toList x) (q:wtE d x≤1048576),Calls Tryz.prog 162 #[.agg cs] w (Made w x)
 |0=>by intro fp cs x;exact PEmpty.elim x
 |d+1=>Af (xX d)
theorem ny(fp:List Nat)(cs:Array Value)(x:aA d)(w:World)(h:Rd.rd fp w cs.toList x)(q:aS x≤1048576):
  Calls Tryz.prog 162 #[.agg cs] w (Made w x):=Af (xX d) fp cs x w h q
theorem Tryz.Fj:(Tryz.prog.info? 144).map (fun i=>(i.zero,i.size,i.bytes))=some (some (.agg #[.string ByteArray.empty,.int .i64 0,.int .i64 0,.bool false]),4,40):=by kernel_rfl
theorem Hw:oM Bool:=fun _ _ _ _ h=>h.1
theorem H8:oM aQ:=mU nI (mU nK (mU nK Hw))
theorem ym{fx:List Nat}{cx:Array Value}(x:bC)(w:World)(hx:Rd.rd fx w cx.toList x)(hl:bM x≤1048576):
  Calls Tryz.prog 116 #[.agg cx] w (Made w x):=by
 obtain⟨I,q,T,U,au,rfl,rfl,-,ae,ah,aj,ak⟩:=Lg hx;clear hx
 have V:dP q≤1048576:=by
  have h:I.size+dP q≤1048576:=hl;omega
 have ai:q.length≤1048576:=le_trans (bT bI q) V;obtain⟨i0,hi,X,Y,Z⟩:=info_parts Tryz.Fj;have O:=Kz (And.intro hi (And.intro X (And.intro Y Z)));clear hi X Y Z hl V;go_in;go_wp2_with fail;generalize J:((w.alloc (.cells #[.string I,.slice T q.length U] 123)).alloc (.cells #[.string ⟨#[]⟩,.slice none 0 0] 123))=B;have gB:Gr w B:=gb J;obtain⟨ax,ay⟩:=kb2 J (w.heap.size) (.string I) (.slice T q.length U);have sB:B.heap.size=w.heap.size+2:=szB J;have EB:=Kz J;clear J;refine eB (fun w'=>Gr B w') 7 (by kernel_rfl) (Gr.drew (Gr.refl _)) (fun hU=>?_);refine aN 0 ?_;refine aN 3 ?_;refine aN 1 ?_;refine aN 4 ?_;refine dw [2] ?_;refine(bf.cons rfl (fun K D=>?_) bf.nil);go_simp;refine D.out _ _ gd (fun aZ=>?_);clear D K
 try simp only[Act.put,uq1,uq2,uq3]
 refine dw [5] ?_
 refine(bf.cons rfl (fun K D=>?_) bf.nil);refine nD (w:=B) H8 gd (by rfl) _ _ _ (by rfl) 144 i0 _ _ Tryz.underlying121 O.o.1 O.o.2.1 O.o.2.2.1 O.o.2.2.2 rfl _ (by rfl) (bE.kF (w0:=B) (w:=B.drew) 144 (le_refl _) (by show _=B.heap.size;omega)) (by intro h;cases h) _ q (by rfl) (ah.gr (gB.trans gd)) ai (by omega) ?_;intro b c fq y hs hf hg hb _ _
 have HS:=Kz hs;have HF:=Kz hf;clear hs hf;refine D.out _ _ hg (fun bg=>?_);clear D K
 try simp only[Act.put,uq1,uq2,uq3]
 refine aN 6 ?_
 refine dw [7] ?_
 refine bf.last rfl (fun K D=>?_)
 obtain rfl:=EB.o;go_simp;refine D.out _ _ ?_;clear D K
 try simp only[Act.put,uq1,uq2,uq3]
 refine fF (by kernel_rfl) ?_ _
 go_wp2_with fail
 exact bodyPost_ret (v:=.agg #[.string I,.slice (some ⟨b,0,none⟩) q.length c])
  (by simp[results,Tryz.results116,go_sem]) rfl ⟨_,_,rfl,iQ I q ae (SlR.moved HS.o HF.o gd (by simp)),HF.o.of_le (by simp<;>omega),gd⟩
structure TestExpr(w:World)(fid:Nat)(cap:Array Value)(p:GE d→Bool)(xs:List (GE d)):Prop where
 fn:∀args W,(callFunc fid args).run Tryz.prog W=.ok (.enter fid args) W
 calls:∀y∈xs,∀(x:Ext) (fp:List Nat) (cs:Array Value),Rd.rd fp (w.ext x) cs.toList y→Qz fid (#[.agg cs]++cap) (w.ext x) (.bool (p y))
theorem qO(fp:List Nat)(u:Value)(xs:List (GE d))(K:Nat)(cap:Array Value)(p:GE d→Bool)(w:World)(hu:SlR fp w u xs)(hf:TestExpr w K cap p xs):
  Qz 247 #[u,.func (.func K) #[] cap] w (.int .i64 (idxOf p xs)):=by
 obtain⟨a,ca,rfl,h1,h2,h3⟩:=hu.open;obtain⟨ah,B⟩:=hf;have HC:=Kz B;clear B;delta Qz;go_in
 go_wp2
 go_loopw [8,5] (fun T s5 wr=>∃k:Nat,k≤xs.length∧(∀j (h:j<xs.length),j<k→p xs[j]=false)∧Gr w wr∧T=.int .i64 k) (fun T s5 _=>xs.length - (intOf T).toNat)
 case atStart=>exact⟨0,by omega,by omega,Gr.refl w,rfl⟩
 case round=>
  obtain⟨k,hk,ht,⟨x,rfl⟩,rfl⟩:=hrel;have U:=Kz ht;clear ht
  by_cases D:k<xs.length
  ·obtain⟨b,off,rfl,hb⟩:=h3 k D
   obtain⟨d1,rfl⟩:∃e,d=e+1:=by
    cases d with
    |zero=>exact PEmpty.elim (xs[k])
    |succ e=>exact⟨e,rfl⟩
   obtain⟨O,ae,q,I,-⟩:=hu.at D;have V:=I;generalize xs[k]=yq at I;obtain⟨q0,q1,q2,q3,q4,q5,q6⟩:=(yq:aA d1);obtain⟨ai,aj,J,-,-,-,-,-,-,-,ak⟩:=aF (cs:=O.toArray) q0 q1 q2 q3 q4 q5 q6 (show Rd.rd (α:=aA d1) ae w O.toArray.toList _ from I);obtain rfl:=toL J;have z0:w.cell? ⟨b,off+k*7,none⟩=some (.int .i64 q0):=q 0 _ rfl;replace q:∀j v,_→w.cell? ⟨b,off+k*7+j,none⟩=some v:=q;have z1:=q 1 _ rfl;have z2:=q 2 _ rfl;have z3:=q 3 _ rfl;have z4:=q 4 _ rfl;have z5:=q 5 _ rfl;have z6:=q 6 _ rfl;clear h3 J q I;go_wp2_with fail;refine(HC.o _ (getElem_mem D) _ _ _ (Rd.gr V gd)).mono ?_;rintro e w2 ⟨rfl,x2,rfl⟩
   go_wp2
   ·have X:p xs[k]=true:=by assumption
    go_ret;exact⟨aC (iH D X U.o).symm,gd⟩
   ·have X:p xs[k]=false:=by assumption
    refine⟨⟨k+1,by omega,fun j Y au=>?_,gd,by go_num⟩,by simp[intOf];omega⟩
    by_cases Z:j<k
    ·exact U.o j Y Z
    ·obtain rfl:j=k:=by omega
     exact X
  ·go_wp2
   go_ret;exact⟨aC (gu fun j Y=>U.o j Y (by omega)).symm,gd⟩
theorem kK(fp:List Nat)(u:Value)(xs:List (GE d))(h:Nat)(cap:Array Value)(p:GE d→Bool)(w:World)(hu:SlR fp w u xs)(q:TestExpr w h cap p xs):
  Qz 223 #[u,.func (.func h) #[] cap] w (.bool (xs.any p)):=by
 delta Qz;go_in
 go_wp2_with (go_at_call 247;refine(qO fp _ _ _ _ _ _ hu q).mono ?_;rintro e w1 ⟨rfl,g1⟩)
 go_ret;refine⟨aa ?_,by assumption⟩;rw[Bool.eq_iff_iff,decide_eq_true_iff];exact iW
structure TestEquation(w:World)(fid:Nat)(cap:Array Value)(p:(aX d)→Bool)(xs:List (aX d)):Prop where
 fn:∀args W,(callFunc fid args).run Tryz.prog W=.ok (.enter fid args) W
 calls:∀y∈xs,∀(x:Ext) (fp:List Nat) (cs:Array Value),Rd.rd fp (w.ext x) cs.toList y→Qz fid (#[.agg cs]++cap) (w.ext x) (.bool (p y))
theorem nQ(fp:List Nat)(u:Value)(xs:List (aX d))(D:Nat)(cap:Array Value)(p:(aX d)→Bool)(w:World)(hu:SlR fp w u xs)(Z:TestEquation w D cap p xs):
  Qz 245 #[u,.func (.func D) #[] cap] w (.int .i64 (idxOf p xs)):=by
 obtain⟨a,ca,rfl,h1,h2,V⟩:=hu.open;obtain⟨ak,q⟩:=Z;have HC:=Kz q;clear q;delta Qz;go_in
 go_wp2
 go_loopw [8,5] (fun I s5 wr=>∃k:Nat,k≤xs.length∧(∀j (h:j<xs.length),j<k→p xs[j]=false)∧Gr w wr∧I=.int .i64 k) (fun I s5 _=>xs.length - (intOf I).toNat)
 case atStart=>exact⟨0,by omega,by omega,Gr.refl w,rfl⟩
 case round=>
  obtain⟨k,hk,ht,⟨x,rfl⟩,rfl⟩:=hrel;have J:=Kz ht;clear ht
  by_cases B:k<xs.length
  ·obtain⟨b,off,rfl,hb⟩:=V k B
   obtain⟨au,ax,ay,aZ,bg,bq,bB,bH,bL,ae,ah,ai,bR,X,Y,-,-,-,-,-,-,-,-,aj,-,-,z0,z1,z2,z3,z4,z5,z6,z7,z8,-⟩:=KY hu B (Gr.refl _);have K:=Lb X Y;clear V;go_wp2_with fail;refine(HC.o _ (getElem_mem B) _ _ _ (Rd.gr K gd)).mono ?_;rintro e w2 ⟨rfl,x2,rfl⟩
   go_wp2
   ·have O:p xs[k]=true:=by assumption
    go_ret;exact⟨aC (iH B O J.o).symm,gd⟩
   ·have O:p xs[k]=false:=by assumption
    refine⟨⟨k+1,by omega,fun j T bX=>?_,gd,by go_num⟩,by simp[intOf];omega⟩
    by_cases U:j<k
    ·exact J.o j T U
    ·obtain rfl:j=k:=by omega
     exact O
  ·go_wp2
   go_ret;exact⟨aC (gu fun j T=>J.o j T (by omega)).symm,gd⟩
theorem jO(fp:List Nat)(u:Value)(xs:List (aX d))(h:Nat)(cap:Array Value)(p:(aX d)→Bool)(w:World)(hu:SlR fp w u xs)(q:TestEquation w h cap p xs):
  Qz 219 #[u,.func (.func h) #[] cap] w (.bool (xs.any p)):=by
 delta Qz;go_in
 go_wp2_with (go_at_call 245;refine(nQ fp _ _ _ _ _ _ hu q).mono ?_;rintro e w1 ⟨rfl,g1⟩)
 go_ret;refine⟨aa ?_,by assumption⟩;rw[Bool.eq_iff_iff,decide_eq_true_iff];exact iW
structure TestOccurrence(w:World)(fid:Nat)(cap:Array Value)(p:ag→Bool)(xs:List ag):Prop where
 fn:∀args W,(callFunc fid args).run Tryz.prog W=.ok (.enter fid args) W
 calls:∀y∈xs,∀(x:Ext) (fp:List Nat) (cs:Array Value),Rd.rd fp (w.ext x) cs.toList y→Qz fid (#[.agg cs]++cap) (w.ext x) (.bool (p y))
theorem mR(fp:List Nat)(u:Value)(xs:List ag)(D:Nat)(cap:Array Value)(p:ag→Bool)(w:World)(hu:SlR fp w u xs)(Z:TestOccurrence w D cap p xs):
  Qz 244 #[u,.func (.func D) #[] cap] w (.int .i64 (idxOf p xs)):=by
 obtain⟨a,ca,rfl,h1,h2,V⟩:=hu.open;obtain⟨ae,q⟩:=Z;have HC:=Kz q;clear q;delta Qz;go_in
 go_wp2
 go_loopw [8,5] (fun I s5 wr=>∃k:Nat,k≤xs.length∧(∀j (h:j<xs.length),j<k→p xs[j]=false)∧Gr w wr∧I=.int .i64 k) (fun I s5 _=>xs.length - (intOf I).toNat)
 case atStart=>exact⟨0,by omega,by omega,Gr.refl w,rfl⟩
 case round=>
  obtain⟨k,hk,ht,⟨x,rfl⟩,rfl⟩:=hrel;have J:=Kz ht;clear ht
  by_cases B:k<xs.length
  ·obtain⟨b,off,rfl,hb⟩:=V k B
   obtain⟨q0,q1,X,Y,-,-,z0,z1,-⟩:=Le hu B (Gr.refl _);have K:=Lb X Y;clear V;go_wp2_with fail;refine(HC.o _ (getElem_mem B) _ _ _ (Rd.gr K gd)).mono ?_;rintro e w2 ⟨rfl,x2,rfl⟩
   go_wp2
   ·have O:p xs[k]=true:=by assumption
    go_ret;exact⟨aC (iH B O J.o).symm,gd⟩
   ·have O:p xs[k]=false:=by assumption
    refine⟨⟨k+1,by omega,fun j T ah=>?_,gd,by go_num⟩,by simp[intOf];omega⟩
    by_cases U:j<k
    ·exact J.o j T U
    ·obtain rfl:j=k:=by omega
     exact O
  ·go_wp2
   go_ret;exact⟨aC (gu fun j T=>J.o j T (by omega)).symm,gd⟩
theorem jo(fp:List Nat)(u:Value)(xs:List ag)(h:Nat)(cap:Array Value)(p:ag→Bool)(w:World)(hu:SlR fp w u xs)(q:TestOccurrence w h cap p xs):
  Qz 216 #[u,.func (.func h) #[] cap] w (.bool (xs.any p)):=by
 delta Qz;go_in
 go_wp2_with (go_at_call 244;refine(mR fp _ _ _ _ _ _ hu q).mono ?_;rintro e w1 ⟨rfl,g1⟩)
 go_ret;refine⟨aa ?_,by assumption⟩;rw[Bool.eq_iff_iff,decide_eq_true_iff];exact iW
end Go.Proofs.YtleafadpfeibfaaGreat
