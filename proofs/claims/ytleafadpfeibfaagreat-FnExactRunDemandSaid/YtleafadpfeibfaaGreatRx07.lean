/- Contracts and laws towards ReadsOf, part 5 of 54. No condition. -/
import Derived.Test.YtleafadpfeibfaaGreatRx05
set_option maxHeartbeats 32000000
set_option maxRecDepth 10000
set_option linter.unusedVariables false
set_option linter.unusedSimpArgs false
namespace Go.Proofs.YtleafadpfeibfaaGreat
open Go.RowKit
open _root_.List (take_length)
def GE:Nat→Type
 |0=>PEmpty
 |d+1=>Int×Int×Int×Int×ByteArray×ByteArray×List (GE d)
instance rdGE:(d:Nat)→Rd (GE d)
 |0=>{n:=7,pos:=by omega,rd:=fun _ _ _ x=>PEmpty.elim x,len:=fun{_ _ _ x} _=>PEmpty.elim x,lt:=fun{_ _ _ x} _=>PEmpty.elim x,mono:=fun{_ _ _ _ x} _ _=>PEmpty.elim x,one:=fun{_ _ _ x} _=>PEmpty.elim x}
 |d+1=>have:=rdGE d;(inferInstance:Rd (Int×Int×Int×Int×ByteArray×ByteArray×List (GE d)))
instance decGE:(d:Nat)→DecidableEq (GE d)
 |0=>fun x=>PEmpty.elim x
 |d+1=>have:=decGE d;@instDecidableEqProd _ _ _ (@instDecidableEqProd _ _ _ (@instDecidableEqProd _ _ _ (@instDecidableEqProd _ _ _ (@instDecidableEqProd _ _ _ (@instDecidableEqProd _ _ _ (inferInstance))))))
variable{d:Nat}
abbrev aA(d:Nat):=Int×Int×Int×Int×ByteArray×ByteArray×List (GE d)
def wtE:(d:Nat)→GE d→Nat
 |0,x=>PEmpty.elim x
 |d+1,x=>(fun y:aA d=>y.2.2.2.2.1.size+y.2.2.2.2.2.1.size+wtL (wtE d) y.2.2.2.2.2.2) x
def fC(xs:List (GE d)):Nat:=wtL (wtE d) xs
def aS(x:(aA d)):Nat:=x.2.2.2.2.1.size+x.2.2.2.2.2.1.size+fC x.2.2.2.2.2.2
instance decExpr:DecidableEq (aA d):=@instDecidableEqProd _ _ _ (@instDecidableEqProd _ _ _ (@instDecidableEqProd _ _ _ (@instDecidableEqProd _ _ _ (@instDecidableEqProd _ _ _ (@instDecidableEqProd _ _ _ (inferInstance))))))
theorem aF{fp:List Nat}{w:World}{cs:Array Value}(q0:Int)(q1:Int)(q2:Int)(q3:Int)(q4:ByteArray)(q5:ByteArray)(q6:List (GE d))(h:Rd.rd (α:=(aA d)) fp w cs.toList (q0,q1,q2,q3,q4,q5,q6)):
  ∃q B,cs=#[.int .i64 q0,.int .i64 q1,.int .i64 q2,.int .i64 q3,.string q4,.string q5,q]∧fp=([]++([]++([]++([]++([]++([]++B))))))∧(Lit.int .i64 q0).wf=true∧(Lit.int .i64 q1).wf=true∧(Lit.int .i64 q2).wf=true∧(Lit.int .i64 q3).wf=true∧q4.size≤maxLen∧q5.size≤maxLen∧SlR B w q q6:=by
 generalize D:cs.toList=l at h;obtain⟨_,_,_,_,rfl,rfl,⟨rfl,rfl,I⟩,⟨_,_,_,_,rfl,rfl,⟨rfl,rfl,J⟩,⟨_,_,_,_,rfl,rfl,⟨rfl,rfl,K⟩,⟨_,_,_,_,rfl,rfl,⟨rfl,rfl,O⟩,⟨_,_,_,_,rfl,rfl,⟨rfl,rfl,T⟩,⟨_,_,_,_,rfl,rfl,⟨rfl,rfl,U⟩,⟨q,rfl,V⟩⟩⟩⟩⟩⟩⟩:=h;exact⟨_,_,Array.toList_inj.1 (by simpa using D),rfl,I,J,K,O,T,U,V⟩
theorem KU{fp:List Nat}{w:World}{c:Array Value}{x:aA d}(h:Rd.rd fp w c.toList x):
 ∃q0 q1 q2 q3 q4 q5 q6 B q D,(q0,q1,q2,q3,q4,q5,q6)=x∧c=#[.int .i64 q0,.int .i64 q1,.int .i64 q2,.int .i64 q3,.string q4,.string q5,.slice B q6.length q]∧Ky (fp=([]++([]++([]++([]++([]++([]++D)))))))∧(Lit.int .i64 q0).wf=true∧(Lit.int .i64 q1).wf=true∧(Lit.int .i64 q2).wf=true∧(Lit.int .i64 q3).wf=true∧q4.size≤maxLen∧q5.size≤maxLen∧SlR D w (.slice B q6.length q) q6∧q6.length≤q∧q6.length≤140737488351232:=by
 obtain⟨q0,q1,q2,q3,q4,q5,q6⟩:=x;obtain⟨ae,D,rfl,Z,J,K,O,T,U,V,I⟩:=aF q0 q1 q2 q3 q4 q5 q6 h;obtain⟨B,q,rfl,X,Y,-⟩:=I.open;exact⟨_,_,_,_,_,_,_,_,_,_,rfl,rfl,Kz Z,J,K,O,T,U,V,I,X,Y⟩
theorem Lc{f:List Nat}{w u:World}{b o n m k:Nat}{xs:List (GE (d+1))}(h:SlR f w (.slice (some ⟨b,o,none⟩) n m) xs)(hl:k<xs.length)(g:Gr w u):
 ∃q0 q1 q2 q3 q4 q5 q6 B q D I,Ky ((q0,q1,q2,q3,q4,q5,q6)=xs[k])∧Ky (Rd.rd (α:=GE (d+1)) I w [.int .i64 q0,.int .i64 q1,.int .i64 q2,.int .i64 q3,.string q4,.string q5,.slice B q6.length q] (q0,q1,q2,q3,q4,q5,q6))∧(Lit.int .i64 q0).wf=true∧(Lit.int .i64 q1).wf=true∧(Lit.int .i64 q2).wf=true∧(Lit.int .i64 q3).wf=true∧q4.size≤maxLen∧q5.size≤maxLen∧SlR D w (.slice B q6.length q) q6∧q6.length≤q∧q6.length≤140737488351232∧u.cell? ⟨b,o+k*7,none⟩=some (.int .i64 q0)∧u.cell? ⟨b,o+k*7+1,none⟩=some (.int .i64 q1)∧u.cell? ⟨b,o+k*7+2,none⟩=some (.int .i64 q2)∧u.cell? ⟨b,o+k*7+3,none⟩=some (.int .i64 q3)∧u.cell? ⟨b,o+k*7+4,none⟩=some (.string q4)∧u.cell? ⟨b,o+k*7+5,none⟩=some (.string q5)∧u.cell? ⟨b,o+k*7+6,none⟩=some (.slice B q6.length q)∧b<u.heap.size:=by
 obtain⟨_,I,hc,hr⟩:=h.el hl;obtain⟨q0,q1,q2,q3,q4,q5,q6,B,q,D,J,rfl,-,K,O,T,U,V,X,Y,Z,ae⟩:=KU hr;have z:=g.keep (hc 0 _ rfl);exact⟨_,_,_,_,_,_,_,_,_,_,_,Kz J,Lt J hr,K,O,T,U,V,X,Y,Z,ae,z,g.keep (hc 1 _ rfl),g.keep (hc 2 _ rfl),g.keep (hc 3 _ rfl),g.keep (hc 4 _ rfl),g.keep (hc 5 _ rfl),g.keep (hc 6 _ rfl),blk z⟩
theorem eO{fp:List Nat}{w:World}{cs:Array Value}{x:(aA d)}(h:Rd.rd (α:=(aA d)) fp w cs.toList x):
  ∃q0 q1 q2 q3 q4 q5 q D B,cs=#[.int .i64 q0,.int .i64 q1,.int .i64 q2,.int .i64 q3,.string q4,.string q5,.slice q D B]:=by
 obtain⟨q0,q1,q2,q3,q4,q5,q6⟩:=x;obtain⟨J,K,rfl,-,-,-,-,-,-,-,I⟩:=aF q0 q1 q2 q3 q4 q5 q6 h;obtain⟨q,B,rfl,-,-,-⟩:=I.open;exact⟨_,_,_,_,_,_,_,_,_,rfl⟩
theorem bJ{w:World}(q0:Int)(q1:Int)(q2:Int)(q3:Int)(q4:ByteArray)(q5:ByteArray)(q6:List (GE d)){h:Value}{q:List Nat}(B:(Lit.int .i64 q0).wf=true)(D:(Lit.int .i64 q1).wf=true)(I:(Lit.int .i64 q2).wf=true)(J:(Lit.int .i64 q3).wf=true)(K:q4.size≤maxLen)(O:q5.size≤maxLen)(T:SlR q w h q6):
  Rd.rd (α:=(aA d)) (([]++([]++([]++([]++([]++([]++q))))))) w [.int .i64 q0,.int .i64 q1,.int .i64 q2,.int .i64 q3,.string q4,.string q5,h] (q0,q1,q2,q3,q4,q5,q6):=⟨_,_,_,_,rfl,rfl,⟨rfl,rfl,B⟩,⟨_,_,_,_,rfl,rfl,⟨rfl,rfl,D⟩,⟨_,_,_,_,rfl,rfl,⟨rfl,rfl,I⟩,⟨_,_,_,_,rfl,rfl,⟨rfl,rfl,J⟩,⟨_,_,_,_,rfl,rfl,⟨rfl,rfl,K⟩,⟨_,_,_,_,rfl,rfl,⟨rfl,rfl,O⟩,⟨_,rfl,T⟩⟩⟩⟩⟩⟩⟩
theorem zT(O:∀(fp:List Nat) (u:Value) (xs:List (GE d)) (left:Int) (w:World) (hu:SlR fp w u xs) (T:0≤left) (h1:left≤1048576),Qz 190 #[u,.int .i64 left] w (.int .i64 (less left (fC xs))))(fp:List Nat)(cs:Array Value)(x:(aA d))(left:Int)(w:World)(D:Rd.rd fp w cs.toList x)(T:0≤left)(h1:left≤1048576):
  Qz 153 #[.agg cs,.int .i64 left] w (.int .i64 (less left (aS x))):=by
 obtain⟨q0,q1,q2,q3,q4,q5,q6⟩:=x;obtain⟨U,I,rfl,-,V,X,Y,Z,J,K,q⟩:=aF q0 q1 q2 q3 q4 q5 q6 D;unfold maxLen at J;unfold maxLen at K;obtain⟨ae,ah,rfl,ai,aj,-⟩:=q.open;have B:aS (q0,q1,q2,q3,q4,q5,q6)=(q4.size)+(q5.size)+(fC q6):=by rfl
 have h:=Kz B;clear B D;delta Qz;go_in;go_wp2_with fail
 ·go_ret
  refine⟨aC ?_,gd⟩;have:=aH left (aS (q0,q1,q2,q3,q4,q5,q6));have:=h.o;omega
 ·go_ret
  refine⟨aC ?_,gd⟩;have:=aH left (aS (q0,q1,q2,q3,q4,q5,q6));have:=h.o;omega
 ·skip
  refine(O I _ _ _ _ (q.gr gd) (by omega) (by omega)).mono ?_;rintro e w6 ⟨rfl,x6,rfl⟩;have ak:=fD (left - ↑q4.size - ↑q5.size) (fC q6) (by omega);go_wp2_with fail
  ·go_ret
   refine⟨aC ?_,gd⟩;have:=aH left (aS (q0,q1,q2,q3,q4,q5,q6));have:=h.o;have:=aH (left - ↑q4.size - ↑q5.size) (fC q6);omega
  ·skip
   go_ret;refine⟨aC ?_,gd⟩;have:=aH left (aS (q0,q1,q2,q3,q4,q5,q6));have:=h.o;have:=aH (left - ↑q4.size - ↑q5.size) (fC q6);omega
theorem Hr(q0:Int)(q1:Int)(q2:Int)(q3:Int)(q4:ByteArray)(q5:ByteArray)(q6:List (GE d))(h:Int)(q:Int)(B:Int)(D:Int)(I:ByteArray)(J:ByteArray)(K:List (GE d))(O:q0=h)(T:q1=q)(U:q2=B)(V:q3=D)(X:q4=I)(Y:q5=J)(Z:q6=K):((q0,q1,q2,q3,q4,q5,q6):(aA d))=(h,q,B,D,I,J,K):=by
 exact Prod.ext_iff.2 ⟨O,Prod.ext_iff.2 ⟨T,Prod.ext_iff.2 ⟨U,Prod.ext_iff.2 ⟨V,Prod.ext_iff.2 ⟨X,Prod.ext_iff.2 ⟨Y,Z⟩⟩⟩⟩⟩⟩
theorem zJ(hS:∀(fp fq:List Nat) (u v:Value) (xs U:List (GE d)) (w:World) (hu:SlR fp w u xs) (hv:SlR fq w v U),Qz 229 #[u,v] w (.bool (decide (xs=U))))(fp fq:List Nat)(cs V:Array Value)(x y:(aA d))(w:World)(X:Rd.rd fp w cs.toList x)(Y:Rd.rd fq w V.toList y):
  Qz 189 #[.agg cs,.agg V] w (.bool (decide (x=y))):=by
 obtain⟨q0,q1,q2,q3,q4,q5,q6⟩:=x;obtain⟨q,B,D,I,J,K,h⟩:=y;obtain⟨ah,Z,rfl,-,ai,aj,ak,au,ax,ay,O⟩:=aF q0 q1 q2 q3 q4 q5 q6 X;obtain⟨aZ,ae,rfl,-,bg,bq,bB,bH,bL,bR,T⟩:=aF q B D I J K h Y;obtain⟨bX,cB,rfl,-,-,-⟩:=O.open;obtain⟨cK,cO,rfl,-,-,-⟩:=T.open;clear X Y;delta Qz;go_in;go_wp2_with fail
 ·have ht:(q0 !=q)=true:=by assumption
  go_ret;exact⟨aa (decide_eq_false fun e=>int_ne ht (congrArg (fun z:(aA d)=>z.1) e)).symm,gd⟩
 ·have ht:(q1 !=B)=true:=by assumption
  go_ret;exact⟨aa (decide_eq_false fun e=>int_ne ht (congrArg (fun z:(aA d)=>z.2.1) e)).symm,gd⟩
 ·have ht:(q2 !=D)=true:=by assumption
  go_ret;exact⟨aa (decide_eq_false fun e=>int_ne ht (congrArg (fun z:(aA d)=>z.2.2.1) e)).symm,gd⟩
 ·have ht:(q3 !=I)=true:=by assumption
  go_ret;exact⟨aa (decide_eq_false fun e=>int_ne ht (congrArg (fun z:(aA d)=>z.2.2.2.1) e)).symm,gd⟩
 ·have ht:(!q4.toList==J.toList)=true:=by assumption
  go_ret;exact⟨aa (decide_eq_false fun e=>lg ht (congrArg (fun z:(aA d)=>z.2.2.2.2.1) e)).symm,gd⟩
 ·have ht:(!q5.toList==K.toList)=true:=by assumption
  go_ret;exact⟨aa (decide_eq_false fun e=>lg ht (congrArg (fun z:(aA d)=>z.2.2.2.2.2.1) e)).symm,gd⟩
 ·skip
  have e0:=Kz (int_eq (show(q0 !=q)=false by assumption));have e1:=Kz (int_eq (show(q1 !=B)=false by assumption));have e2:=Kz (int_eq (show(q2 !=D)=false by assumption));have e3:=Kz (int_eq (show(q3 !=I)=false by assumption));have e4:=Kz (str_eq (show(!q4.toList==J.toList)=false by assumption));have e5:=Kz (str_eq (show(!q5.toList==K.toList)=false by assumption));refine(hS Z ae _ _ q6 h _ (O.gr gd) (T.gr gd)).mono ?_;rintro e w6 ⟨rfl,x6,rfl⟩;go_wp2_with fail
  ·have ht:(!decide (q6=h))=true:=by assumption
   go_ret;exact⟨aa (decide_eq_false fun e=>iy ht (congrArg (fun z:(aA d)=>z.2.2.2.2.2.2) e)).symm,gd⟩
  ·skip
   have e6:=Kz (iq (show(!decide (q6=h))=false by assumption));go_ret;exact⟨aa (decide_eq_true (Hr q0 q1 q2 q3 q4 q5 q6 q B D I J K h e0.o e1.o e2.o e3.o e4.o e5.o e6.o)).symm,gd⟩
theorem zR(hS:∀(fp:List Nat) (u:Value) (xs:List (GE d)) (w:World) (hu:SlR fp w u xs) (hlen:fC xs≤1048576),Calls Tryz.prog 207 #[u] w fun e w'=>∃v fq,e=.returned v∧SlR fq w' v xs∧aY w fq∧Gr w w')(fp:List Nat)(cs:Array Value)(x:(aA d))(w:World)(D:Rd.rd fp w cs.toList x)(hl:aS x≤1048576):
  Calls Tryz.prog 170 #[.agg cs] w fun e w'=>∃I fq,e=.returned (.agg I)∧Rd.rd fq w' I.toList x∧aY w fq∧Gr w w':=by
 obtain⟨q0,q1,q2,q3,q4,q5,q6,ai,aj,J,rfl,rfl,-,K,O,T,U,V,X,Y,-,-⟩:=KU D;have q:aS (q0,q1,q2,q3,q4,q5,q6)=(q4.size)+(q5.size)+(fC q6):=by rfl
 have HW:=Kz q;clear q D;go_in;go_wp2_with fail;refine(hS J _ _ _ (Y.gr gd) (by have:=HW.o;omega)).mono ?_;rintro e w6 ⟨u6,g6,rfl,Z,B,x6,rfl⟩;obtain⟨ae,ah,rfl,-,-,-⟩:=Z.open;go_wp2_with fail
 have h:aY w g6:=by
  exact(aY.of_le B (by simp<;>omega))
 exact bodyPost_ret (v:=.agg #[.int .i64 q0,.int .i64 q1,.int .i64 q2,.int .i64 q3,.string q4,.string q5,.slice ae q6.length ah]) (by simp[results,Tryz.results170,go_sem]) rfl
  ⟨_,_,rfl,bJ q0 q1 q2 q3 q4 q5 q6 K O T U V X (SlR.moved Z B gd (by simp)),h,gd⟩
theorem xZ(hE:∀(fp:List Nat) (cs:Array Value) (x:(GE d)) (left:Int) (w:World) (h:Rd.rd fp w cs.toList x) (T:0≤left) (h1:left≤1048576),Qz 153 #[.agg cs,.int .i64 left] w (.int .i64 (less left (wtE d x))))(fp:List Nat)(u:Value)(xs:List (GE d))(left:Int)(w:World)(hu:SlR fp w u xs)(T:0≤left)(h1:left≤1048576):
  Qz 190 #[u,.int .i64 left] w (.int .i64 (less left (fC xs))):=by
 obtain⟨a,ca,rfl,g1,g2,g3⟩:=hu.open
 by_cases J:left - xs.length<0
 ·have hle:less left (fC xs)= -1:=by unfold less fC wtL;rw[if_pos (by omega)]
  have HL:=Kz hle;clear hle;delta Qz;go_in
  go_wp2
  go_ret;exact⟨aC HL.o.symm,Gr.refl w⟩
 ·have I:less left xs.length=left - xs.length:=by unfold less;rw[if_neg J]
  have U:=Kz I;clear I;delta Qz;go_in
  go_wp2
  go_loopw [5,1] (fun K s1 wr=>∃(k:Nat) (m:Int),k≤xs.length∧0≤m∧m≤1048576∧Ky (m=less left (xs.length+((xs.take k).map (wtE _)).sum))∧Gr w wr∧K=.int .i64 k∧s1=.int .i64 m) (fun K _ _=>xs.length - (intOf K).toNat)
  case atStart=>exact⟨0,_,by omega,by omega,by omega,Kz (by simp[U.o]),Gr.refl w,rfl,rfl⟩
  case round=>
   obtain⟨k,m,hk,ae,ah,hm,⟨x,rfl⟩,rfl,rfl⟩:=hrel
   by_cases q:k<xs.length
   ·obtain⟨b,off,rfl,hb⟩:=g3 k q
    have B:=Kz (eZ (wtE _) xs k q)
    obtain⟨d1,rfl⟩:∃e,d=e+1:=by
     cases d with
     |zero=>exact PEmpty.elim (xs[k])
     |succ e=>exact⟨e,rfl⟩
    obtain⟨q0,q1,q2,q3,q4,q5,q6,ai,aj,ak,au,V,X,ax,ay,aZ,bg,bq,bB,bH,-,-,z0,z1,z2,z3,z4,z5,z6,-⟩:=Lc hu q (Gr.refl _);have O:=Lb V X;have Z:=fD m ((wtE _) xs[k]) (by omega);clear g3
    go_wp2_with (go_at_call 153;refine(hE _ _ xs[k] _ _ (Rd.gr O ((Gr.refl w).ext _)) (by omega) (by omega)).mono ?_;rintro e w1 ⟨rfl,y,rfl⟩)
    ·have h:less m ((wtE _) xs[k])<0:=by assumption
     go_ret;refine⟨aC ?_,gd⟩;have e:=hm.o;subst e;rw[fE,Nat.add_assoc,←B.o] at h;exact(jV h (Nat.add_le_add_left (gJ (wtE _) xs (k+1)) _) T).symm
    ·have h:0≤less m ((wtE _) xs[k]):=by assumption
     refine⟨⟨k+1,_,by omega,h,by omega,Kz ?_,gd,by go_num,rfl⟩,by simp[intOf];omega⟩;rw[B.o,hm.o,fE,Nat.add_assoc]
   ·have Y:k=xs.length:=by omega
    subst Y;have D:=hm.o;rw[take_length] at D;have HM:=Kz D;clear D hm
    go_wp2
    go_ret;exact⟨aC HM.o,gd⟩
theorem wY(hE:∀(fp fq:List Nat) (cs U:Array Value) (x y:(GE d)) (w:World) (hx:Rd.rd fp w cs.toList x) (hy:Rd.rd fq w U.toList y),Qz 189 #[.agg cs,.agg U] w (.bool (decide (x=y))))(fp fq:List Nat)(u v:Value)(xs q:List (GE d))(w:World)(hu:SlR fp w u xs)(hv:SlR fq w v q):
  Qz 229 #[u,v] w (.bool (decide (xs=q))):=by
 obtain⟨a,ca,rfl,h1,h2,V⟩:=hu.open;obtain⟨c,cc,rfl,g1,g2,g3⟩:=hv.open
 by_cases D:xs.length=q.length
 ·have J:=Kz D
  have X:((xs.length:Int)!=(q.length:Int))=false:=by simp[D]
  clear D;delta Qz;go_in
  go_wp2
  go_loopw [5] (fun K wr=>∃k:Nat,k≤xs.length∧xs.take k=q.take k∧Gr w wr∧K=.int .i64 k) (fun K _=>xs.length - (intOf K).toNat)
  case atStart=>exact⟨0,by omega,rfl,Gr.refl w,rfl⟩
  case round=>
   obtain⟨k,hk,ht,⟨x,rfl⟩,rfl⟩:=hrel
   by_cases I:k<xs.length
   ·have B:k<q.length:=by have:=J.o;omega
    obtain⟨b,off,rfl,hb⟩:=V k I;obtain⟨b',aj,rfl,ak⟩:=g3 k B
    obtain⟨d1,rfl⟩:∃e,d=e+1:=by
     cases d with
     |zero=>exact PEmpty.elim (xs[k])
     |succ e=>exact⟨e,rfl⟩
    obtain⟨q0,q1,q2,q3,q4,q5,q6,au,ax,ay,aZ,Y,Z,bg,bq,bB,bH,bL,bR,bX,-,-,z0,z1,z2,z3,z4,z5,z6,-⟩:=Lc hu I (Gr.refl _);have O:=Lb Y Z;obtain⟨p0,p1,p2,p3,p4,p5,p6,cB,cK,cO,dB,ae,ah,dS,dV,fe,fu,gB,gD,gF,-,-,gT,gV,gX,ik,iw,kr,ku,-⟩:=Lc hv B (Gr.refl _);have T:=Lb ae ah;have hT:=Kz ht;clear V g3 ht;go_wp2_with fail;refine wg ?_
    repeat(go_big_quiet_step ((go_at_call 189;refine aG (hE _ _ _ _ xs[k] q[k] _ (Rd.gr O ?_) (Rd.gr T ?_))<;>exact((Gr.refl w).ext _).ext _)))
    refine wq fun nx=>?_
    go_wp2
    ·have ht:(!decide (xs[k]=q[k]))=true:=by assumption
     go_ret;have E:xs≠q:=fun e=>iy ht (by subst e;rfl)
     exact⟨aa (decide_eq_false E).symm,gd⟩
    ·have ht:(!decide (xs[k]=q[k]))=false:=by assumption
     have e2:=iq ht;refine⟨⟨k+1,by omega,?_,gd,by go_num⟩,by simp[intOf];omega⟩;rw[List.take_succ_eq_append_getElem I,List.take_succ_eq_append_getElem B,hT.o,e2]
   ·have ai:k=xs.length:=by omega
    subst ai
    have e:xs=q:=by
     have h:=ht;have h':=J.o;rw[take_length,h',take_length] at h;exact h
    have E:=Kz e;clear e ht
    go_wp2
    go_ret;exact⟨aa (decide_eq_true E.o).symm,gd⟩
 ·have X:((xs.length:Int)!=(q.length:Int))=true:=by simp;omega
  have e:xs≠q:=fun e=>D (by rw[e])
  have E:=Kz e;clear e D;delta Qz;go_in
  go_wp2
  go_ret;exact⟨aa (decide_eq_false E.o).symm,Gr.refl w⟩
theorem Tryz.Gu:(Tryz.prog.info? 165).map (fun i=>(i.zero,i.size,i.bytes))=some (some (.agg #[.int .i64 0,.int .i64 0,.int .i64 0,.int .i64 0,.string ByteArray.empty,.string ByteArray.empty,.slice none 0 0]),7,88):=by kernel_rfl
theorem wQ(hE:∀(fp:List Nat) (cs:Array Value) (x:(GE d)) (w:World) (hx:Rd.rd fp w cs.toList x) (hl:wtE d x≤1048576),Calls Tryz.prog 170 #[.agg cs] w fun e w'=>∃ds fq,e=.returned (.agg ds)∧Rd.rd fq w' ds.toList x∧aY w fq∧Gr w w')(fp:List Nat)(u:Value)(xs:List (GE d))(w:World)(hu:SlR fp w u xs)(hlen:fC xs≤1048576):
  Calls Tryz.prog 207 #[u] w fun e w'=>∃v fq,e=.returned v∧SlR fq w' v xs∧aY w fq∧Gr w w':=by
 obtain⟨a,ca,rfl,h1,h2,h3⟩:=hu.open;have bB:xs.length≤1048576:=Nat.le_trans (bT (wtE _) xs) hlen;obtain⟨i0,hi,Y,Z,ae⟩:=info_parts Tryz.Gu;have D:=fun(W:World)=>run_make (P:=Tryz.prog) W 163 165 i0 (.agg #[.int .i64 0,.int .i64 0,.int .i64 0,.int .i64 0,.string ByteArray.empty,.string ByteArray.empty,.slice none 0 0]) Tryz.underlying163 hi Y .i64 .i64 xs.length xs.length (by omega) (by omega) (by rw[ae];omega) (by omega)
 rw[Z] at D;clear hi Y Z ae;simp only[Int.toNat_natCast] at D;have I:=size_madeCells (Value.agg #[.int .i64 0,.int .i64 0,.int .i64 0,.int .i64 0,.string ByteArray.empty,.string ByteArray.empty,.slice none 0 0]).cells (xs.length*7);generalize madeCells (Value.agg #[.int .i64 0,.int .i64 0,.int .i64 0,.int .i64 0,.string ByteArray.empty,.string ByteArray.empty,.slice none 0 0]).cells (xs.length*7)=C0 at D I;have HS:=Kz I;have au:=Kz hlen;clear I hlen;go_in
 go_wp2
 go_loopw [4] (fun s4 wr=>∃(k:Nat) (C:Array Value) (x:Ext) (fps:List (List Nat)),C.size=xs.length*7∧iF w w.heap.size wr C k fps xs∧wr=(w.alloc (.cells C 165)).ext x∧s4=.int .i64 k) (fun s4 _=>xs.length - (intOf s4).toNat)
 case atStart=>exact⟨0,C0,⟨#[],0⟩,[],HS.o,iF.start _ _ (Nat.le_refl _) (by simp),(lX _).symm,rfl⟩
 case round=>
  obtain⟨k,C,x,fps,hC,hp,rfl,rfl⟩:=hrel;have ax:=Kz hC;have hk:=hp.le
  by_cases B:k<xs.length
  ·obtain⟨b,off,rfl,hb⟩:=h3 k B
   have ah:=dI (wtE _) xs B
   obtain⟨d1,rfl⟩:∃e,d=e+1:=by
    cases d with
    |zero=>exact PEmpty.elim (xs[k])
    |succ e=>exact⟨e,rfl⟩
   obtain⟨q0,q1,q2,q3,q4,q5,q6,bH,bL,bR,bX,ay,aZ,cB,cK,cO,dB,dS,dV,fe,-,-,z0,z1,z2,z3,z4,z5,z6,-⟩:=Lc hu B (Gr.refl _);have ak:=Lb ay aZ;have y0:k*7<C.size:=by omega
   have y1:k*7+1<C.size:=by omega
   have y2:k*7+2<C.size:=by omega
   have y3:k*7+3<C.size:=by omega
   have y4:k*7+4<C.size:=by omega
   have y5:k*7+5<C.size:=by omega
   have y6:k*7+6<C.size:=by omega
   have fu:(wtE _) xs[k]≤1048576:=Nat.le_trans ah au.o;have ai:k*7+7≤C.size:=by omega
   have HD:=Kz ai;clear hC h3 ah ai
   go_wp2_with (go_at_call 170;refine(hE _ _ xs[k] _ (Rd.gr ak gd) (by omega)).mono ?_;rintro e w1 ⟨ds,fq,rfl,hs,hf,y,rfl⟩;have aj:=hs;generalize xs[k]=yr at aj;obtain⟨J,K,O,T,U,V,X⟩:=yr;obtain⟨gB,gD,rfl,-,gF,gT,gV,gX,ik,iw,bg⟩:=aF J K O T U V X aj;obtain⟨h,q,rfl,-,-,-⟩:=bg.open)
   rw[iV,←F3];refine⟨⟨k+1,setRow C (k*7) [.int .i64 J,.int .i64 K,.int .i64 O,.int .i64 T,.string U,.string V,.slice h X.length q],x.comp y,fps++[fq],?_,?_,rfl,by go_num⟩,by simp[intOf];omega⟩
   ·rw[setRow_size];exact ax.o
   ·refine hp.lT B (C':=setRow C (k*7) [.int .i64 J,.int .i64 K,.int .i64 O,.int .i64 T,.string U,.string V,.slice h X.length q]) (cs:=[.int .i64 J,.int .i64 K,.int .i64 O,.int .i64 T,.string U,.string V,.slice h X.length q]) ?_ hf (fun j hj=>jW _ _ _ _ hj) (jS _ _ _ HD.o)
    exact hs
  ·have bq:k=xs.length:=by omega
   subst bq;obtain⟨fq,hs,hf⟩:=hp.done (iD _ x) (cap:=xs.length) (Nat.le_refl _) (by unfold bn;omega);have HF:=Kz hs;clear hs hC
   go_wp2
   go_ret;exact⟨_,fq,rfl,HF.o,hf,gd⟩
theorem uy:(d:Nat)→∀(fp:List Nat) (u:Value) (xs:List (GE d)) (left:Int) (w:World) (hu:SlR fp w u xs) (h:0≤left) (h1:left≤1048576),Qz 190 #[u,.int .i64 left] w (.int .i64 (less left (fC xs)))
 |0=>xZ (by intro fp cs x;exact PEmpty.elim x)
 |d+1=>xZ (zT (uy d))
theorem qx(fp:List Nat)(cs:Array Value)(x:(aA d))(left:Int)(w:World)(h:Rd.rd fp w cs.toList x)(q:0≤left)(h1:left≤1048576):
  Qz 153 #[.agg cs,.int .i64 left] w (.int .i64 (less left (aS x))):=zT (uy d) fp cs x left w h q h1
theorem uE:(d:Nat)→∀(fp fq:List Nat) (u v:Value) (xs h:List (GE d)) (w:World) (hu:SlR fp w u xs) (hv:SlR fq w v h),Qz 229 #[u,v] w (.bool (decide (xs=h)))
 |0=>wY (by intro fp fq cs q x;exact PEmpty.elim x)
 |d+1=>wY (zJ (uE d))
theorem qI(fp fq:List Nat)(cs h:Array Value)(x y:(aA d))(w:World)(q:Rd.rd fp w cs.toList x)(B:Rd.rd fq w h.toList y):
  Qz 189 #[.agg cs,.agg h] w (.bool (decide (x=y))):=zJ (uE d) fp fq cs h x y w q B
theorem uD:(d:Nat)→∀(fp:List Nat) (u:Value) (xs:List (GE d)) (w:World) (hu:SlR fp w u xs) (hlen:fC xs≤1048576),Calls Tryz.prog 207 #[u] w fun e w'=>∃v fq,e=.returned v∧SlR fq w' v xs∧aY w fq∧Gr w w'
 |0=>wQ (by intro fp cs x;exact PEmpty.elim x)
 |d+1=>wQ (zR (uD d))
theorem qF(fp:List Nat)(cs:Array Value)(x:(aA d))(w:World)(q:Rd.rd fp w cs.toList x)(B:aS x≤1048576):
  Calls Tryz.prog 170 #[.agg cs] w fun e w'=>∃h fq,e=.returned (.agg h)∧Rd.rd fq w' h.toList x∧aY w fq∧Gr w w':=zR (uD d) fp cs x w q B
abbrev av:=Int×ByteArray
def fM(x:av):Nat:=x.2.size
theorem bK{fp:List Nat}{w:World}{cs:Array Value}(q0:Int)(q1:ByteArray)(h:Rd.rd (α:=av) fp w cs.toList (q0,q1)):
  cs=#[.int .i64 q0,.string q1]∧fp=([]++[])∧(Lit.int .i64 q0).wf=true∧q1.size≤maxLen:=by
 generalize q:cs.toList=l at h;obtain⟨_,_,_,_,rfl,rfl,⟨rfl,rfl,B⟩,⟨rfl,rfl,D⟩⟩:=h;exact⟨Array.toList_inj.1 (by simpa using q),rfl,B,D⟩
theorem K7{fp:List Nat}{w:World}{c:Array Value}{x:av}(h:Rd.rd fp w c.toList x):
 ∃q0 q1,(q0,q1)=x∧c=#[.int .i64 q0,.string q1]∧Ky (fp=[])∧(Lit.int .i64 q0).wf=true∧q1.size≤maxLen:=by
 obtain⟨q0,q1⟩:=x;obtain⟨rfl,D,q,B⟩:=bK q0 q1 h;exact⟨_,_,rfl,rfl,Kz D,q,B⟩
theorem Lh{f:List Nat}{w u:World}{b o n m k:Nat}{xs:List (av)}(h:SlR f w (.slice (some ⟨b,o,none⟩) n m) xs)(I:k<xs.length)(g:Gr w u):
 ∃q0 q1,Ky ((q0,q1)=xs[k])∧Ky (Rd.rd (α:=av) [] w [.int .i64 q0,.string q1] (q0,q1))∧(Lit.int .i64 q0).wf=true∧q1.size≤maxLen∧u.cell? ⟨b,o+k*2,none⟩=some (.int .i64 q0)∧u.cell? ⟨b,o+k*2+1,none⟩=some (.string q1)∧b<u.heap.size:=by
 obtain⟨_,K,hc,hr⟩:=h.el I;obtain⟨q0,q1,q,rfl,J,B,D⟩:=K7 hr;obtain rfl:=J.o;have z:=g.keep (hc 0 _ rfl);exact⟨_,_,Kz q,Lt q hr,B,D,z,g.keep (hc 1 _ rfl),blk z⟩
theorem tJ{fp:List Nat}{w:World}{cs:Array Value}{x:av}(h:Rd.rd (α:=av) fp w cs.toList x):
  ∃q0 q1,cs=#[.int .i64 q0,.string q1]:=by
 obtain⟨q0,q1⟩:=x;obtain⟨rfl,-,-,-⟩:=bK q0 q1 h;exact⟨_,_,rfl⟩
theorem bZ{w:World}(q0:Int)(q1:ByteArray)(h:(Lit.int .i64 q0).wf=true)(q:q1.size≤maxLen):
  Rd.rd (α:=av) (([]++[])) w [.int .i64 q0,.string q1] (q0,q1):=⟨_,_,_,_,rfl,rfl,⟨rfl,rfl,h⟩,⟨rfl,rfl,q⟩⟩
theorem oN(fp:List Nat)(cs:Array Value)(x:av)(left:Int)(w:World)(q:Rd.rd fp w cs.toList x)(J:0≤left)(h1:left≤1048576):
  Qz 9 #[.agg cs,.int .i64 left] w (.int .i64 (less left (fM x))):=by
 obtain⟨q0,q1,rfl,rfl,-,I,B⟩:=K7 q;unfold maxLen at B;have h:fM (q0,q1)=(q1.size):=by rfl
 have D:=Kz h;clear h q;delta Qz;go_in;go_wp2_with fail
 ·go_ret
  refine⟨aC ?_,gd⟩;have:=aH left (fM (q0,q1));have:=D.o;omega
 ·skip
  go_ret;refine⟨aC ?_,gd⟩;have:=aH left (fM (q0,q1));have:=D.o;omega
theorem Aw(q0:Int)(q1:ByteArray)(h:Int)(q:ByteArray)(B:q0=h)(D:q1=q):((q0,q1):av)=(h,q):=by
 exact Prod.ext_iff.2 ⟨B,D⟩
theorem wK(fp fq:List Nat)(cs B:Array Value)(x y:av)(w:World)(D:Rd.rd fp w cs.toList x)(I:Rd.rd fq w B.toList y):
  Qz 45 #[.agg cs,.agg B] w (.bool (decide (x=y))):=by
 obtain⟨q0,q1⟩:=x;obtain⟨h,q⟩:=y;obtain⟨rfl,-,O,T⟩:=bK q0 q1 D;obtain⟨rfl,-,U,V⟩:=bK h q I;clear D I;delta Qz;go_in;go_wp2_with fail
 ·have ht:(q0 !=h)=true:=by assumption
  go_ret;exact⟨aa (decide_eq_false fun e=>int_ne ht (congrArg (fun z:av=>z.1) e)).symm,gd⟩
 ·have ht:(!q1.toList==q.toList)=true:=by assumption
  go_ret;exact⟨aa (decide_eq_false fun e=>lg ht (congrArg (fun z:av=>z.2) e)).symm,gd⟩
 ·skip
  have J:=Kz (int_eq (show(q0 !=h)=false by assumption));have K:=Kz (str_eq (show(!q1.toList==q.toList)=false by assumption));go_ret;exact⟨aa (decide_eq_true (Aw q0 q1 h q J.o K.o)).symm,gd⟩
theorem l6(fp:List Nat)(cs:Array Value)(x:av)(w:World)(h:Rd.rd fp w cs.toList x):
  Qz 13 #[.agg cs] w (.agg cs):=by
 obtain⟨q0,q1,rfl,rfl,-,q,B⟩:=K7 h;clear h;delta Qz;go_in;go_wp2_with fail;exact bodyPost_ret (v:=.agg #[.int .i64 q0,.string q1]) (by simp[results,Tryz.results13,go_sem]) rfl ⟨rfl,gd⟩
def kP(xs:List av):Nat:=wtL fM xs
theorem kX(fp fq:List Nat)(u v:Value)(xs q:List av)(w:World)(hu:SlR fp w u xs)(hv:SlR fq w v q):
  Qz 15 #[u,v] w (.bool (decide (xs=q))):=by
 obtain⟨a,ca,rfl,h1,h2,U⟩:=hu.open;obtain⟨c,cc,rfl,g1,g2,g3⟩:=hv.open
 by_cases D:xs.length=q.length
 ·have J:=Kz D
  have V:((xs.length:Int)!=(q.length:Int))=false:=by simp[D]
  clear D;delta Qz;go_in
  go_wp2
  go_loopw [5] (fun K wr=>∃k:Nat,k≤xs.length∧xs.take k=q.take k∧Gr w wr∧K=.int .i64 k) (fun K _=>xs.length - (intOf K).toNat)
  case atStart=>exact⟨0,by omega,rfl,Gr.refl w,rfl⟩
  case round=>
   obtain⟨k,hk,ht,⟨x,rfl⟩,rfl⟩:=hrel
   by_cases I:k<xs.length
   ·have B:k<q.length:=by have:=J.o;omega
    obtain⟨b,off,rfl,hb⟩:=U k I;obtain⟨b',ai,rfl,aj⟩:=g3 k B;obtain⟨q0,q1,X,Y,ak,au,z0,z1,-⟩:=Lh hu I (Gr.refl _);have O:=Lb X Y;obtain⟨p0,p1,Z,ae,ax,ay,aZ,bg,-⟩:=Lh hv B (Gr.refl _);have T:=Lb Z ae;have hT:=Kz ht;clear U g3 ht;go_wp2_with fail;refine wg ?_
    repeat(go_big_quiet_step ((go_at_call 45;refine aG (wK _ _ _ _ xs[k] q[k] _ (Rd.gr O ?_) (Rd.gr T ?_))<;>exact((Gr.refl w).ext _).ext _)))
    refine wq fun nx=>?_
    go_wp2
    ·have ht:(!decide (xs[k]=q[k]))=true:=by assumption
     go_ret;have E:xs≠q:=fun e=>iy ht (by subst e;rfl)
     exact⟨aa (decide_eq_false E).symm,gd⟩
    ·have ht:(!decide (xs[k]=q[k]))=false:=by assumption
     have e2:=iq ht;refine⟨⟨k+1,by omega,?_,gd,by go_num⟩,by simp[intOf];omega⟩;rw[List.take_succ_eq_append_getElem I,List.take_succ_eq_append_getElem B,hT.o,e2]
   ·have ah:k=xs.length:=by omega
    subst ah
    have e:xs=q:=by
     have h:=ht;have h':=J.o;rw[take_length,h',take_length] at h;exact h
    have E:=Kz e;clear e ht
    go_wp2
    go_ret;exact⟨aa (decide_eq_true E.o).symm,gd⟩
 ·have V:((xs.length:Int)!=(q.length:Int))=true:=by simp;omega
  have e:xs≠q:=fun e=>D (by rw[e])
  have E:=Kz e;clear e D;delta Qz;go_in
  go_wp2
  go_ret;exact⟨aa (decide_eq_false E.o).symm,Gr.refl w⟩
abbrev Co:=av×Int×ByteArray
instance decReading:DecidableEq Co:=@instDecidableEqProd _ _ _ (@instDecidableEqProd _ _ _ (inferInstance))
end Go.Proofs.YtleafadpfeibfaaGreat
