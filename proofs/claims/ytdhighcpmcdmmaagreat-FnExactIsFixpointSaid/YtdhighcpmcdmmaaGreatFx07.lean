/- Contracts and laws towards ReadsOf, part 5 of 54. No condition. -/
import Derived.Test.YtdhighcpmcdmmaaGreatFx05
set_option maxHeartbeats 32000000
set_option maxRecDepth 10000
set_option linter.unusedVariables false
set_option linter.unusedSimpArgs false
namespace Go.Proofs.YtdhighcpmcdmmaaGreat
open Go.RowKit
open _root_.List (take_length)
open _root_.Nat (add_assoc le_refl le_trans)
def GE:Nat→Type
 |0=>PEmpty
 |d+1=>Int×Int×Int×Int×ByteArray×ByteArray×List (GE d)
instance rdGE:(d:Nat)→Rd (GE d)
 |0=>{n:=7,pos:=by omega,rd:=fun _ _ _ x=>PEmpty.elim x,len:=fun{_ _ _ x} _=>PEmpty.elim x,lt:=fun{_ _ _ x} _=>PEmpty.elim x,mono:=fun{_ _ _ _ x} _ _=>PEmpty.elim x,one:=fun{_ _ _ x} _=>PEmpty.elim x}
 |d+1=>have:=rdGE d;(inferInstance:Rd (Int×Int×Int×Int×ByteArray×ByteArray×List (GE d)))
instance decGE:(d:Nat)→DecidableEq (GE d)
 |0=>fun x=>PEmpty.elim x
 |d+1=>have:=decGE d;@instDecidableEqProd _ _ _ (@instDecidableEqProd _ _ _ (@instDecidableEqProd _ _ _ (@instDecidableEqProd _ _ _ (@instDecidableEqProd _ _ _ (@instDecidableEqProd _ _ _ (inferInstance))))))
variable{d:Nat}
abbrev aA(d:Nat):=Int×Int×Int×Int×ByteArray×ByteArray×List (GE d)
def wtE:(d:Nat)→GE d→Nat
 |0,x=>PEmpty.elim x
 |d+1,x=>(fun y:aA d=>y.2.2.2.2.1.size+y.2.2.2.2.2.1.size+wtL (wtE d) y.2.2.2.2.2.2) x
def fC(xs:List (GE d)):Nat:=wtL (wtE d) xs
def ak(x:(aA d)):Nat:=x.2.2.2.2.1.size+x.2.2.2.2.2.1.size+fC x.2.2.2.2.2.2
instance decExpr:DecidableEq (aA d):=@instDecidableEqProd _ _ _ (@instDecidableEqProd _ _ _ (@instDecidableEqProd _ _ _ (@instDecidableEqProd _ _ _ (@instDecidableEqProd _ _ _ (@instDecidableEqProd _ _ _ (inferInstance))))))
theorem aF{fp:List Nat}{w:World}{cs:Array Value}(q0:Int)(q1:Int)(q2:Int)(q3:Int)(q4:ByteArray)(q5:ByteArray)(q6:List (GE d))(h:Rd.rd (α:=(aA d)) fp w cs.toList (q0,q1,q2,q3,q4,q5,q6)):
  ∃q s,cs=#[.int .i64 q0,.int .i64 q1,.int .i64 q2,.int .i64 q3,.string q4,.string q5,q]∧fp=([]++([]++([]++([]++([]++([]++s))))))∧(Lit.int .i64 q0).wf=true∧(Lit.int .i64 q1).wf=true∧(Lit.int .i64 q2).wf=true∧(Lit.int .i64 q3).wf=true∧q4.size≤maxLen∧q5.size≤maxLen∧SlR s w q q6:=by
 generalize B:cs.toList=l at h;obtain⟨_,_,_,_,rfl,rfl,⟨rfl,rfl,D⟩,⟨_,_,_,_,rfl,rfl,⟨rfl,rfl,E⟩,⟨_,_,_,_,rfl,rfl,⟨rfl,rfl,H⟩,⟨_,_,_,_,rfl,rfl,⟨rfl,rfl,I⟩,⟨_,_,_,_,rfl,rfl,⟨rfl,rfl,J⟩,⟨_,_,_,_,rfl,rfl,⟨rfl,rfl,K⟩,⟨q,rfl,O⟩⟩⟩⟩⟩⟩⟩:=h;exact⟨_,_,Array.toList_inj.1 (by simpa using B),rfl,D,E,H,I,J,K,O⟩
theorem KU{fp:List Nat}{w:World}{c:Array Value}{x:aA d}(h:Rd.rd fp w c.toList x):
 ∃q0 q1 q2 q3 q4 q5 q6 s q B,(q0,q1,q2,q3,q4,q5,q6)=x∧c=#[.int .i64 q0,.int .i64 q1,.int .i64 q2,.int .i64 q3,.string q4,.string q5,.slice s q6.length q]∧Ky (fp=([]++([]++([]++([]++([]++([]++B)))))))∧(Lit.int .i64 q0).wf=true∧(Lit.int .i64 q1).wf=true∧(Lit.int .i64 q2).wf=true∧(Lit.int .i64 q3).wf=true∧q4.size≤maxLen∧q5.size≤maxLen∧SlR B w (.slice s q6.length q) q6∧q6.length≤q∧q6.length≤140737488351232:=by
 obtain⟨q0,q1,q2,q3,q4,q5,q6⟩:=x;obtain⟨Y,B,rfl,X,E,H,I,J,K,O,D⟩:=aF q0 q1 q2 q3 q4 q5 q6 h;obtain⟨s,q,rfl,T,U,-⟩:=D.open;exact⟨_,_,_,_,_,_,_,_,_,_,rfl,rfl,Kz X,E,H,I,J,K,O,D,T,U⟩
theorem Lc{f:List Nat}{w u:World}{b o n m k:Nat}{xs:List (GE (d+1))}(h:SlR f w (.slice (some ⟨b,o,none⟩) n m) xs)(hl:k<xs.length)(g:Gr w u):
 ∃q0 q1 q2 q3 q4 q5 q6 s q B D,Ky ((q0,q1,q2,q3,q4,q5,q6)=xs[k])∧Ky (Rd.rd (α:=GE (d+1)) D w [.int .i64 q0,.int .i64 q1,.int .i64 q2,.int .i64 q3,.string q4,.string q5,.slice s q6.length q] (q0,q1,q2,q3,q4,q5,q6))∧(Lit.int .i64 q0).wf=true∧(Lit.int .i64 q1).wf=true∧(Lit.int .i64 q2).wf=true∧(Lit.int .i64 q3).wf=true∧q4.size≤maxLen∧q5.size≤maxLen∧SlR B w (.slice s q6.length q) q6∧q6.length≤q∧q6.length≤140737488351232∧u.cell? ⟨b,o+k*7,none⟩=some (.int .i64 q0)∧u.cell? ⟨b,o+k*7+1,none⟩=some (.int .i64 q1)∧u.cell? ⟨b,o+k*7+2,none⟩=some (.int .i64 q2)∧u.cell? ⟨b,o+k*7+3,none⟩=some (.int .i64 q3)∧u.cell? ⟨b,o+k*7+4,none⟩=some (.string q4)∧u.cell? ⟨b,o+k*7+5,none⟩=some (.string q5)∧u.cell? ⟨b,o+k*7+6,none⟩=some (.slice s q6.length q)∧b<u.heap.size:=by
 obtain⟨_,D,hc,E⟩:=h.el hl;obtain⟨q0,q1,q2,q3,q4,q5,q6,s,q,B,H,rfl,-,I,J,K,O,T,U,X,Y,Z⟩:=KU E;have z:=g.keep (hc 0 _ rfl);exact⟨_,_,_,_,_,_,_,_,_,_,_,Kz H,Lt H E,I,J,K,O,T,U,X,Y,Z,z,g.keep (hc 1 _ rfl),g.keep (hc 2 _ rfl),g.keep (hc 3 _ rfl),g.keep (hc 4 _ rfl),g.keep (hc 5 _ rfl),g.keep (hc 6 _ rfl),blk z⟩
theorem eO{fp:List Nat}{w:World}{cs:Array Value}{x:(aA d)}(h:Rd.rd (α:=(aA d)) fp w cs.toList x):
  ∃q0 q1 q2 q3 q4 q5 q B s,cs=#[.int .i64 q0,.int .i64 q1,.int .i64 q2,.int .i64 q3,.string q4,.string q5,.slice q B s]:=by
 obtain⟨q0,q1,q2,q3,q4,q5,q6⟩:=x;obtain⟨E,H,rfl,-,-,-,-,-,-,-,D⟩:=aF q0 q1 q2 q3 q4 q5 q6 h;obtain⟨q,s,rfl,-,-,-⟩:=D.open;exact⟨_,_,_,_,_,_,_,_,_,rfl⟩
theorem bJ{w:World}(q0:Int)(q1:Int)(q2:Int)(q3:Int)(q4:ByteArray)(q5:ByteArray)(q6:List (GE d)){h:Value}{q:List Nat}(s:(Lit.int .i64 q0).wf=true)(B:(Lit.int .i64 q1).wf=true)(D:(Lit.int .i64 q2).wf=true)(E:(Lit.int .i64 q3).wf=true)(H:q4.size≤maxLen)(I:q5.size≤maxLen)(J:SlR q w h q6):
  Rd.rd (α:=(aA d)) (([]++([]++([]++([]++([]++([]++q))))))) w [.int .i64 q0,.int .i64 q1,.int .i64 q2,.int .i64 q3,.string q4,.string q5,h] (q0,q1,q2,q3,q4,q5,q6):=⟨_,_,_,_,rfl,rfl,⟨rfl,rfl,s⟩,⟨_,_,_,_,rfl,rfl,⟨rfl,rfl,B⟩,⟨_,_,_,_,rfl,rfl,⟨rfl,rfl,D⟩,⟨_,_,_,_,rfl,rfl,⟨rfl,rfl,E⟩,⟨_,_,_,_,rfl,rfl,⟨rfl,rfl,H⟩,⟨_,_,_,_,rfl,rfl,⟨rfl,rfl,I⟩,⟨_,rfl,J⟩⟩⟩⟩⟩⟩⟩
theorem zT(I:∀(fp:List Nat) (u:Value) (xs:List (GE d)) (left:Int) (w:World) (hu:SlR fp w u xs) (J:0≤left) (K:left≤1048576),Qz 267 #[u,.int .i64 left] w (.int .i64 (less left (fC xs))))(fp:List Nat)(cs:Array Value)(x:(aA d))(left:Int)(w:World)(B:Rd.rd fp w cs.toList x)(J:0≤left)(K:left≤1048576):
  Qz 228 #[.agg cs,.int .i64 left] w (.int .i64 (less left (ak x))):=by
 obtain⟨q0,q1,q2,q3,q4,q5,q6⟩:=x;obtain⟨O,D,rfl,-,T,U,X,Y,E,H,q⟩:=aF q0 q1 q2 q3 q4 q5 q6 B;unfold maxLen at E;unfold maxLen at H;obtain⟨Z,ae,rfl,ah,ai,-⟩:=q.open;have s:ak (q0,q1,q2,q3,q4,q5,q6)=(q4.size)+(q5.size)+(fC q6):=by rfl
 have h:=Kz s;clear s B;delta Qz;go_in;go_wp2_with fail
 ·go_ret
  refine⟨aC ?_,gd⟩;have:=aH left (ak (q0,q1,q2,q3,q4,q5,q6));have:=h.o;omega
 ·go_ret
  refine⟨aC ?_,gd⟩;have:=aH left (ak (q0,q1,q2,q3,q4,q5,q6));have:=h.o;omega
 ·skip
  refine(I D _ _ _ _ (q.gr gd) (by omega) (by omega)).mono ?_;rintro e w6 ⟨rfl,x6,rfl⟩;have aj:=fD (left - ↑q4.size - ↑q5.size) (fC q6) (by omega);go_wp2_with fail
  ·go_ret
   refine⟨aC ?_,gd⟩;have:=aH left (ak (q0,q1,q2,q3,q4,q5,q6));have:=h.o;have:=aH (left - ↑q4.size - ↑q5.size) (fC q6);omega
  ·skip
   go_ret;refine⟨aC ?_,gd⟩;have:=aH left (ak (q0,q1,q2,q3,q4,q5,q6));have:=h.o;have:=aH (left - ↑q4.size - ↑q5.size) (fC q6);omega
theorem Hr(q0:Int)(q1:Int)(q2:Int)(q3:Int)(q4:ByteArray)(q5:ByteArray)(q6:List (GE d))(h:Int)(q:Int)(s:Int)(B:Int)(D:ByteArray)(E:ByteArray)(H:List (GE d))(I:q0=h)(J:q1=q)(K:q2=s)(O:q3=B)(T:q4=D)(U:q5=E)(X:q6=H):((q0,q1,q2,q3,q4,q5,q6):(aA d))=(h,q,s,B,D,E,H):=by
 exact Prod.ext_iff.2 ⟨I,Prod.ext_iff.2 ⟨J,Prod.ext_iff.2 ⟨K,Prod.ext_iff.2 ⟨O,Prod.ext_iff.2 ⟨T,Prod.ext_iff.2 ⟨U,X⟩⟩⟩⟩⟩⟩
theorem zJ(hS:∀(fp fq:List Nat) (u v:Value) (xs O:List (GE d)) (w:World) (hu:SlR fp w u xs) (hv:SlR fq w v O),Qz 294 #[u,v] w (.bool (decide (xs=O))))(fp fq:List Nat)(cs T:Array Value)(x y:(aA d))(w:World)(U:Rd.rd fp w cs.toList x)(X:Rd.rd fq w T.toList y):
  Qz 253 #[.agg cs,.agg T] w (.bool (decide (x=y))):=by
 obtain⟨q0,q1,q2,q3,q4,q5,q6⟩:=x;obtain⟨s,B,D,E,H,I,q⟩:=y;obtain⟨ae,Y,rfl,-,ah,ai,aj,au,ax,ay,J⟩:=aF q0 q1 q2 q3 q4 q5 q6 U;obtain⟨aL,Z,rfl,-,aN,aS,aV,aZ,bg,bq,K⟩:=aF s B D E H I q X;obtain⟨bB,bD,rfl,-,-,-⟩:=J.open;obtain⟨bH,bK,rfl,-,-,-⟩:=K.open;clear U X;delta Qz;go_in;go_wp2_with fail
 ·have h:(q0 !=s)=true:=by assumption
  go_ret;exact⟨aa (decide_eq_false fun e=>int_ne h (congrArg (fun z:(aA d)=>z.1) e)).symm,gd⟩
 ·have h:(q1 !=B)=true:=by assumption
  go_ret;exact⟨aa (decide_eq_false fun e=>int_ne h (congrArg (fun z:(aA d)=>z.2.1) e)).symm,gd⟩
 ·have h:(q2 !=D)=true:=by assumption
  go_ret;exact⟨aa (decide_eq_false fun e=>int_ne h (congrArg (fun z:(aA d)=>z.2.2.1) e)).symm,gd⟩
 ·have h:(q3 !=E)=true:=by assumption
  go_ret;exact⟨aa (decide_eq_false fun e=>int_ne h (congrArg (fun z:(aA d)=>z.2.2.2.1) e)).symm,gd⟩
 ·have h:(!q4.toList==H.toList)=true:=by assumption
  go_ret;exact⟨aa (decide_eq_false fun e=>lg h (congrArg (fun z:(aA d)=>z.2.2.2.2.1) e)).symm,gd⟩
 ·have h:(!q5.toList==I.toList)=true:=by assumption
  go_ret;exact⟨aa (decide_eq_false fun e=>lg h (congrArg (fun z:(aA d)=>z.2.2.2.2.2.1) e)).symm,gd⟩
 ·skip
  have e0:=Kz (int_eq (show(q0 !=s)=false by assumption));have e1:=Kz (int_eq (show(q1 !=B)=false by assumption));have e2:=Kz (int_eq (show(q2 !=D)=false by assumption));have e3:=Kz (int_eq (show(q3 !=E)=false by assumption));have e4:=Kz (str_eq (show(!q4.toList==H.toList)=false by assumption));have e5:=Kz (str_eq (show(!q5.toList==I.toList)=false by assumption));refine(hS Y Z _ _ q6 q _ (J.gr gd) (K.gr gd)).mono ?_;rintro e w6 ⟨rfl,x6,rfl⟩;go_wp2_with fail
  ·have h:(!decide (q6=q))=true:=by assumption
   go_ret;exact⟨aa (decide_eq_false fun e=>iy h (congrArg (fun z:(aA d)=>z.2.2.2.2.2.2) e)).symm,gd⟩
  ·skip
   have e6:=Kz (iq (show(!decide (q6=q))=false by assumption));go_ret;exact⟨aa (decide_eq_true (Hr q0 q1 q2 q3 q4 q5 q6 s B D E H I q e0.o e1.o e2.o e3.o e4.o e5.o e6.o)).symm,gd⟩
theorem zR(hS:∀(fp:List Nat) (u:Value) (xs:List (GE d)) (w:World) (hu:SlR fp w u xs) (hlen:fC xs≤1048576),Calls Tryz.prog 281 #[u] w fun e w'=>∃v fq,e=.returned v∧SlR fq w' v xs∧aY w fq∧Gr w w')(fp:List Nat)(cs:Array Value)(x:(aA d))(w:World)(B:Rd.rd fp w cs.toList x)(hl:ak x≤1048576):
  Calls Tryz.prog 242 #[.agg cs] w fun e w'=>∃D fq,e=.returned (.agg D)∧Rd.rd fq w' D.toList x∧aY w fq∧Gr w w':=by
 obtain⟨q0,q1,q2,q3,q4,q5,q6,ae,ah,E,rfl,rfl,-,H,I,J,K,O,T,U,-,-⟩:=KU B;have q:ak (q0,q1,q2,q3,q4,q5,q6)=(q4.size)+(q5.size)+(fC q6):=by rfl
 have HW:=Kz q;clear q B;go_in;go_wp2_with fail;refine(hS E _ _ _ (U.gr gd) (by have:=HW.o;omega)).mono ?_;rintro e w6 ⟨u6,g6,rfl,X,s,x6,rfl⟩;obtain⟨Y,Z,rfl,-,-,-⟩:=X.open;go_wp2_with fail
 have h:aY w g6:=by
  exact(aY.of_le s (by simp<;>omega))
 exact bodyPost_ret (v:=.agg #[.int .i64 q0,.int .i64 q1,.int .i64 q2,.int .i64 q3,.string q4,.string q5,.slice Y q6.length Z]) (by simp[results,Tryz.results242,go_sem]) rfl
  ⟨_,_,rfl,bJ q0 q1 q2 q3 q4 q5 q6 H I J K O T (SlR.moved X s gd (by simp)),h,gd⟩
theorem xZ(Z:∀(fp:List Nat) (cs:Array Value) (x:(GE d)) (left:Int) (w:World) (h:Rd.rd fp w cs.toList x) (J:0≤left) (h1:left≤1048576),Qz 228 #[.agg cs,.int .i64 left] w (.int .i64 (less left (wtE d x))))(fp:List Nat)(u:Value)(xs:List (GE d))(left:Int)(w:World)(hu:SlR fp w u xs)(J:0≤left)(h1:left≤1048576):
  Qz 267 #[u,.int .i64 left] w (.int .i64 (less left (fC xs))):=by
 obtain⟨a,ca,rfl,g1,g2,K⟩:=hu.open
 by_cases E:left - xs.length<0
 ·have hle:less left (fC xs)= -1:=by unfold less fC wtL;rw[if_pos (by omega)]
  have HL:=Kz hle;clear hle;delta Qz;go_in
  go_wp2
  go_ret;exact⟨aC HL.o.symm,Gr.refl w⟩
 ·have D:less left xs.length=left - xs.length:=by unfold less;rw[if_neg E]
  have O:=Kz D;clear D;delta Qz;go_in
  go_wp2
  go_loopw [5,1] (fun H s1 wr=>∃(k:Nat) (m:Int),k≤xs.length∧0≤m∧m≤1048576∧Ky (m=less left (xs.length+((xs.take k).map (wtE _)).sum))∧Gr w wr∧H=.int .i64 k∧s1=.int .i64 m) (fun H _ _=>xs.length - (intOf H).toNat)
  case atStart=>exact⟨0,_,by omega,by omega,by omega,Kz (by simp[O.o]),Gr.refl w,rfl,rfl⟩
  case round=>
   obtain⟨k,m,hk,ae,ah,hm,⟨x,rfl⟩,rfl,rfl⟩:=hrel
   by_cases q:k<xs.length
   ·obtain⟨b,off,rfl,hb⟩:=K k q
    have s:=Kz (eZ (wtE _) xs k q)
    obtain⟨d1,rfl⟩:∃e,d=e+1:=by
     cases d with
     |zero=>exact PEmpty.elim (xs[k])
     |succ e=>exact⟨e,rfl⟩
    obtain⟨q0,q1,q2,q3,q4,q5,q6,ai,aj,au,ax,T,U,ay,aL,aN,aS,aV,aZ,bg,-,-,z0,z1,z2,z3,z4,z5,z6,-⟩:=Lc hu q (Gr.refl _);have I:=Lb T U;have Y:=fD m ((wtE _) xs[k]) (by omega);clear K
    go_wp2_with (go_at_call 228;refine(Z _ _ xs[k] _ _ (Rd.gr I ((Gr.refl w).ext _)) (by omega) (by omega)).mono ?_;rintro e w1 ⟨rfl,y,rfl⟩)
    ·have h:less m ((wtE _) xs[k])<0:=by assumption
     go_ret;refine⟨aC ?_,gd⟩;have e:=hm.o;subst e;rw[fE,add_assoc,←s.o] at h;exact(jV h (Nat.add_le_add_left (gJ (wtE _) xs (k+1)) _) J).symm
    ·have h:0≤less m ((wtE _) xs[k]):=by assumption
     refine⟨⟨k+1,_,by omega,h,by omega,Kz ?_,gd,by go_num,rfl⟩,by simp[intOf];omega⟩;rw[s.o,hm.o,fE,add_assoc]
   ·have X:k=xs.length:=by omega
    subst X;have B:=hm.o;rw[take_length] at B;have HM:=Kz B;clear B hm
    go_wp2
    go_ret;exact⟨aC HM.o,gd⟩
theorem wY(hE:∀(fp fq:List Nat) (cs T:Array Value) (x y:(GE d)) (w:World) (hx:Rd.rd fp w cs.toList x) (hy:Rd.rd fq w T.toList y),Qz 253 #[.agg cs,.agg T] w (.bool (decide (x=y))))(fp fq:List Nat)(u v:Value)(xs q:List (GE d))(w:World)(hu:SlR fp w u xs)(U:SlR fq w v q):
  Qz 294 #[u,v] w (.bool (decide (xs=q))):=by
 obtain⟨a,ca,rfl,h1,h2,X⟩:=hu.open;obtain⟨c,cc,rfl,g1,g2,Y⟩:=U.open
 by_cases D:xs.length=q.length
 ·have I:=Kz D
  have Z:((xs.length:Int)!=(q.length:Int))=false:=by simp[D]
  clear D;delta Qz;go_in
  go_wp2
  go_loopw [5] (fun J wr=>∃k:Nat,k≤xs.length∧xs.take k=q.take k∧Gr w wr∧J=.int .i64 k) (fun J _=>xs.length - (intOf J).toNat)
  case atStart=>exact⟨0,by omega,rfl,Gr.refl w,rfl⟩
  case round=>
   obtain⟨k,hk,s,⟨x,rfl⟩,rfl⟩:=hrel
   by_cases H:k<xs.length
   ·have B:k<q.length:=by have:=I.o;omega
    obtain⟨b,off,rfl,hb⟩:=X k H;obtain⟨b',ax,rfl,ay⟩:=Y k B
    obtain⟨d1,rfl⟩:∃e,d=e+1:=by
     cases d with
     |zero=>exact PEmpty.elim (xs[k])
     |succ e=>exact⟨e,rfl⟩
    obtain⟨q0,q1,q2,q3,q4,q5,q6,aL,aN,aS,aV,ae,ah,aZ,bg,bq,bB,bD,bH,bK,-,-,z0,z1,z2,z3,z4,z5,z6,-⟩:=Lc hu H (Gr.refl _);have K:=Lb ae ah;obtain⟨p0,p1,p2,p3,p4,p5,p6,bL,bN,bV,cK,ai,aj,cO,dz,dA,dC,dG,dL,dU,-,-,dW,eH,fe,fu,fw,fA,fK,-⟩:=Lc U B (Gr.refl _);have O:=Lb ai aj;have hT:=Kz s;clear X Y s;go_wp2_with fail;refine wg ?_
    repeat(go_big_quiet_step ((go_at_call 253;refine aG (hE _ _ _ _ xs[k] q[k] _ (Rd.gr K ?_) (Rd.gr O ?_))<;>exact((Gr.refl w).ext _).ext _)))
    refine wq fun nx=>?_
    go_wp2
    ·have s:(!decide (xs[k]=q[k]))=true:=by assumption
     go_ret;have E:xs≠q:=fun e=>iy s (by subst e;rfl)
     exact⟨aa (decide_eq_false E).symm,gd⟩
    ·have s:(!decide (xs[k]=q[k]))=false:=by assumption
     have e2:=iq s;refine⟨⟨k+1,by omega,?_,gd,by go_num⟩,by simp[intOf];omega⟩;rw[List.take_succ_eq_append_getElem H,List.take_succ_eq_append_getElem B,hT.o,e2]
   ·have au:k=xs.length:=by omega
    subst au
    have e:xs=q:=by
     have h:=s;have h':=I.o;rw[take_length,h',take_length] at h;exact h
    have E:=Kz e;clear e s
    go_wp2
    go_ret;exact⟨aa (decide_eq_true E.o).symm,gd⟩
 ·have Z:((xs.length:Int)!=(q.length:Int))=true:=by simp;omega
  have e:xs≠q:=fun e=>D (by rw[e])
  have E:=Kz e;clear e D;delta Qz;go_in
  go_wp2
  go_ret;exact⟨aa (decide_eq_false E.o).symm,Gr.refl w⟩
theorem Tryz.Gu:(Tryz.prog.info? 115).map (fun i=>(i.zero,i.size,i.bytes))=some (some (.agg #[.int .i64 0,.int .i64 0,.int .i64 0,.int .i64 0,.string ByteArray.empty,.string ByteArray.empty,.slice none 0 0]),7,88):=by kernel_rfl
theorem wQ(hE:∀(fp:List Nat) (cs:Array Value) (x:(GE d)) (w:World) (hx:Rd.rd fp w cs.toList x) (hl:wtE d x≤1048576),Calls Tryz.prog 242 #[.agg cs] w fun e w'=>∃ds fq,e=.returned (.agg ds)∧Rd.rd fq w' ds.toList x∧aY w fq∧Gr w w')(fp:List Nat)(u:Value)(xs:List (GE d))(w:World)(hu:SlR fp w u xs)(hlen:fC xs≤1048576):
  Calls Tryz.prog 281 #[u] w fun e w'=>∃v fq,e=.returned v∧SlR fq w' v xs∧aY w fq∧Gr w w':=by
 obtain⟨a,ca,rfl,h1,h2,h3⟩:=hu.open;have aZ:xs.length≤1048576:=le_trans (bT (wtE _) xs) hlen;obtain⟨i0,hi,X,Y,Z⟩:=info_parts Tryz.Gu;have B:=fun(W:World)=>run_make (P:=Tryz.prog) W 113 115 i0 (.agg #[.int .i64 0,.int .i64 0,.int .i64 0,.int .i64 0,.string ByteArray.empty,.string ByteArray.empty,.slice none 0 0]) Tryz.underlying113 hi X .i64 .i64 xs.length xs.length (by omega) (by omega) (by rw[Z];omega) (by omega)
 rw[Y] at B;clear hi X Y Z;simp only[Int.toNat_natCast] at B;have D:=size_madeCells (Value.agg #[.int .i64 0,.int .i64 0,.int .i64 0,.int .i64 0,.string ByteArray.empty,.string ByteArray.empty,.slice none 0 0]).cells (xs.length*7);generalize madeCells (Value.agg #[.int .i64 0,.int .i64 0,.int .i64 0,.int .i64 0,.string ByteArray.empty,.string ByteArray.empty,.slice none 0 0]).cells (xs.length*7)=C0 at B D;have HS:=Kz D;have au:=Kz hlen;clear D hlen;go_in
 go_wp2
 go_loopw [4] (fun s4 wr=>∃(k:Nat) (C:Array Value) (x:Ext) (fps:List (List Nat)),C.size=xs.length*7∧iF w w.heap.size wr C k fps xs∧wr=(w.alloc (.cells C 115)).ext x∧s4=.int .i64 k) (fun s4 _=>xs.length - (intOf s4).toNat)
 case atStart=>exact⟨0,C0,⟨#[],0⟩,[],HS.o,iF.start _ _ (le_refl _) (by simp),(lX _).symm,rfl⟩
 case round=>
  obtain⟨k,C,x,fps,hC,hp,rfl,rfl⟩:=hrel;have ax:=Kz hC;have hk:=hp.le
  by_cases s:k<xs.length
  ·obtain⟨b,off,rfl,hb⟩:=h3 k s
   have ae:=dI (wtE _) xs s
   obtain⟨d1,rfl⟩:∃e,d=e+1:=by
    cases d with
    |zero=>exact PEmpty.elim (xs[k])
    |succ e=>exact⟨e,rfl⟩
   obtain⟨q0,q1,q2,q3,q4,q5,q6,bg,bq,bB,bD,ay,aL,bH,bK,bL,bN,bV,cK,cO,-,-,z0,z1,z2,z3,z4,z5,z6,-⟩:=Lc hu s (Gr.refl _);have aj:=Lb ay aL;have y0:k*7<C.size:=by omega
   have y1:k*7+1<C.size:=by omega
   have y2:k*7+2<C.size:=by omega
   have y3:k*7+3<C.size:=by omega
   have y4:k*7+4<C.size:=by omega
   have y5:k*7+5<C.size:=by omega
   have y6:k*7+6<C.size:=by omega
   have dz:(wtE _) xs[k]≤1048576:=le_trans ae au.o;have ah:k*7+7≤C.size:=by omega
   have HD:=Kz ah;clear hC h3 ae ah
   go_wp2_with (go_at_call 242;refine(hE _ _ xs[k] _ (Rd.gr aj gd) (by omega)).mono ?_;rintro e w1 ⟨ds,fq,rfl,E,hf,y,rfl⟩;have ai:=E;generalize xs[k]=yr at ai;obtain⟨H,I,J,K,O,T,U⟩:=yr;obtain⟨dA,dC,rfl,aN,dG,dL,dU,dW,eH,fe,aS⟩:=aF H I J K O T U ai;obtain⟨h,q,rfl,-,-,-⟩:=aS.open;clear aN)
   rw[iV,←F3];refine⟨⟨k+1,setRow C (k*7) [.int .i64 H,.int .i64 I,.int .i64 J,.int .i64 K,.string O,.string T,.slice h U.length q],x.comp y,fps++[fq],?_,?_,rfl,by go_num⟩,by simp[intOf];omega⟩
   ·rw[setRow_size];exact ax.o
   ·refine hp.lT s (C':=setRow C (k*7) [.int .i64 H,.int .i64 I,.int .i64 J,.int .i64 K,.string O,.string T,.slice h U.length q]) (cs:=[.int .i64 H,.int .i64 I,.int .i64 J,.int .i64 K,.string O,.string T,.slice h U.length q]) ?_ hf (fun j hj=>jW _ _ _ _ hj) (jS _ _ _ HD.o)
    exact E
  ·have aV:k=xs.length:=by omega
   subst aV;obtain⟨fq,E,hf⟩:=hp.done (iD _ x) (cap:=xs.length) (le_refl _) (by unfold bn;omega);have HF:=Kz E;clear E hC
   go_wp2
   go_ret;exact⟨_,fq,rfl,HF.o,hf,gd⟩
theorem uy:(d:Nat)→∀(fp:List Nat) (u:Value) (xs:List (GE d)) (left:Int) (w:World) (hu:SlR fp w u xs) (h:0≤left) (q:left≤1048576),Qz 267 #[u,.int .i64 left] w (.int .i64 (less left (fC xs)))
 |0=>xZ (by intro fp cs x;exact PEmpty.elim x)
 |d+1=>xZ (zT (uy d))
theorem qx(fp:List Nat)(cs:Array Value)(x:(aA d))(left:Int)(w:World)(h:Rd.rd fp w cs.toList x)(q:0≤left)(s:left≤1048576):
  Qz 228 #[.agg cs,.int .i64 left] w (.int .i64 (less left (ak x))):=zT (uy d) fp cs x left w h q s
theorem uE:(d:Nat)→∀(fp fq:List Nat) (u v:Value) (xs h:List (GE d)) (w:World) (hu:SlR fp w u xs) (q:SlR fq w v h),Qz 294 #[u,v] w (.bool (decide (xs=h)))
 |0=>wY (by intro fp fq cs s x;exact PEmpty.elim x)
 |d+1=>wY (zJ (uE d))
theorem qI(fp fq:List Nat)(cs h:Array Value)(x y:(aA d))(w:World)(q:Rd.rd fp w cs.toList x)(s:Rd.rd fq w h.toList y):
  Qz 253 #[.agg cs,.agg h] w (.bool (decide (x=y))):=zJ (uE d) fp fq cs h x y w q s
theorem uD:(d:Nat)→∀(fp:List Nat) (u:Value) (xs:List (GE d)) (w:World) (hu:SlR fp w u xs) (hlen:fC xs≤1048576),Calls Tryz.prog 281 #[u] w fun e w'=>∃v fq,e=.returned v∧SlR fq w' v xs∧aY w fq∧Gr w w'
 |0=>wQ (by intro fp cs x;exact PEmpty.elim x)
 |d+1=>wQ (zR (uD d))
theorem qF(fp:List Nat)(cs:Array Value)(x:(aA d))(w:World)(q:Rd.rd fp w cs.toList x)(s:ak x≤1048576):
  Calls Tryz.prog 242 #[.agg cs] w fun e w'=>∃h fq,e=.returned (.agg h)∧Rd.rd fq w' h.toList x∧aY w fq∧Gr w w':=zR (uD d) fp cs x w q s
abbrev aX(d:Nat):=ag×(aA d)
def aU(x:(aX d)):Nat:=dn x.1+ak x.2
theorem kr{fp:List Nat}{w:World}{cs:Array Value}(I:Int)(J:ByteArray)(q:Int)(s:Int)(B:Int)(D:Int)(E:ByteArray)(H:ByteArray)(K:List (GE d))(h:Rd.rd (α:=(aX d)) fp w cs.toList ((I,J),(q,s,B,D,E,H,K))):
  ∃O T,cs=#[.int .i64 I,.string J,.int .i64 q,.int .i64 s,.int .i64 B,.int .i64 D,.string E,.string H,O]∧fp=(([]++[])++([]++([]++([]++([]++([]++([]++T)))))))∧(Lit.int .i64 I).wf=true∧J.size≤maxLen∧(Lit.int .i64 q).wf=true∧(Lit.int .i64 s).wf=true∧(Lit.int .i64 B).wf=true∧(Lit.int .i64 D).wf=true∧E.size≤maxLen∧H.size≤maxLen∧SlR T w O K:=by
 generalize X:cs.toList=l at h;obtain⟨_,Y,_,bq,rfl,rfl,⟨_,_,_,_,rfl,rfl,⟨rfl,rfl,Z⟩,⟨rfl,rfl,ae⟩⟩,aV⟩:=h;obtain⟨U,bg,ah,ai,aj,au,ax,ay,aL,aN,aS⟩:=aF (cs:=Y.toArray) q s B D E H K (by rw[List.toList_toArray];exact aV);have aZ:Y=[.int .i64 q,.int .i64 s,.int .i64 B,.int .i64 D,.string E,.string H,U]:=by have:=congrArg Array.toList ah;simpa using this
 rw[aZ] at X;exact⟨_,_,Array.toList_inj.1 (by simpa using X),(by rw[ai]),Z,ae,aj,au,ax,ay,aL,aN,aS⟩
theorem Ll{fp:List Nat}{w:World}{c:Array Value}{x:(aX d)}(h:Rd.rd fp w c.toList x):
 ∃B D E H I J K O q T s U,((B,D),(E,H,I,J,K,O,q))=x∧c=#[.int .i64 B,.string D,.int .i64 E,.int .i64 H,.int .i64 I,.int .i64 J,.string K,.string O,.slice T q.length s]∧True∧(Lit.int .i64 B).wf=true∧D.size≤maxLen∧(Lit.int .i64 E).wf=true∧(Lit.int .i64 H).wf=true∧(Lit.int .i64 I).wf=true∧(Lit.int .i64 J).wf=true∧K.size≤maxLen∧O.size≤maxLen∧SlR U w (.slice T q.length s) q∧q.length≤s∧q.length≤140737488351232:=by
 obtain⟨⟨B,D⟩,⟨E,H,I,J,K,O,q⟩⟩:=x;obtain⟨aN,U,rfl,hf,Y,Z,ae,ah,ai,aj,au,ax,X⟩:=kr B D E H I J K O q h;obtain⟨T,s,rfl,ay,aL,-⟩:=X.open;exact⟨_,_,_,_,_,_,_,_,_,_,_,_,rfl,rfl,⟨⟩,Y,Z,ae,ah,ai,aj,au,ax,X,ay,aL⟩
theorem KY{f:List Nat}{w u:World}{b o n m k:Nat}{xs:List ((aX d))}(h:SlR f w (.slice (some ⟨b,o,none⟩) n m) xs)(hl:k<xs.length)(g:Gr w u):
 ∃B D E H I J K O q T s U fe,Ky (((B,D),(E,H,I,J,K,O,q))=xs[k])∧Ky (Rd.rd (α:=(aX d)) fe w [.int .i64 B,.string D,.int .i64 E,.int .i64 H,.int .i64 I,.int .i64 J,.string K,.string O,.slice T q.length s] ((B,D),(E,H,I,J,K,O,q)))∧(Lit.int .i64 B).wf=true∧D.size≤maxLen∧(Lit.int .i64 E).wf=true∧(Lit.int .i64 H).wf=true∧(Lit.int .i64 I).wf=true∧(Lit.int .i64 J).wf=true∧K.size≤maxLen∧O.size≤maxLen∧SlR U w (.slice T q.length s) q∧q.length≤s∧q.length≤140737488351232∧u.cell? ⟨b,o+k*9,none⟩=some (.int .i64 B)∧u.cell? ⟨b,o+k*9+1,none⟩=some (.string D)∧u.cell? ⟨b,o+k*9+2,none⟩=some (.int .i64 E)∧u.cell? ⟨b,o+k*9+3,none⟩=some (.int .i64 H)∧u.cell? ⟨b,o+k*9+4,none⟩=some (.int .i64 I)∧u.cell? ⟨b,o+k*9+5,none⟩=some (.int .i64 J)∧u.cell? ⟨b,o+k*9+6,none⟩=some (.string K)∧u.cell? ⟨b,o+k*9+7,none⟩=some (.string O)∧u.cell? ⟨b,o+k*9+8,none⟩=some (.slice T q.length s)∧b<u.heap.size:=by
 obtain⟨_,fe,hc,hr⟩:=h.el hl;obtain⟨B,D,E,H,I,J,K,O,q,T,s,U,hy,rfl,-,X,Y,Z,ae,ah,ai,aj,au,ax,ay,aL⟩:=Ll hr;have z:=g.keep (hc 0 _ rfl);exact⟨_,_,_,_,_,_,_,_,_,_,_,_,_,Kz hy,Lt hy hr,X,Y,Z,ae,ah,ai,aj,au,ax,ay,aL,z,g.keep (hc 1 _ rfl),g.keep (hc 2 _ rfl),g.keep (hc 3 _ rfl),g.keep (hc 4 _ rfl),g.keep (hc 5 _ rfl),g.keep (hc 6 _ rfl),g.keep (hc 7 _ rfl),g.keep (hc 8 _ rfl),blk z⟩
theorem ql{w:World}(h:Int)(q:ByteArray)(s:Int)(B:Int)(D:Int)(E:Int)(H:ByteArray)(I:ByteArray)(O:List (GE d)){J:Value}{K:List Nat}(T:(Lit.int .i64 h).wf=true)(U:q.size≤maxLen)(X:(Lit.int .i64 s).wf=true)(Y:(Lit.int .i64 B).wf=true)(Z:(Lit.int .i64 D).wf=true)(ae:(Lit.int .i64 E).wf=true)(ah:H.size≤maxLen)(ai:I.size≤maxLen)(aj:SlR K w J O):
  Rd.rd (α:=(aX d)) ((([]++[])++([]++([]++([]++([]++([]++([]++K)))))))) w [.int .i64 h,.string q,.int .i64 s,.int .i64 B,.int .i64 D,.int .i64 E,.string H,.string I,J] ((h,q),(s,B,D,E,H,I,O)):=⟨_,_,_,_,rfl,rfl,⟨_,_,_,_,rfl,rfl,⟨rfl,rfl,T⟩,⟨rfl,rfl,U⟩⟩,⟨_,_,_,_,rfl,rfl,⟨rfl,rfl,X⟩,⟨_,_,_,_,rfl,rfl,⟨rfl,rfl,Y⟩,⟨_,_,_,_,rfl,rfl,⟨rfl,rfl,Z⟩,⟨_,_,_,_,rfl,rfl,⟨rfl,rfl,ae⟩,⟨_,_,_,_,rfl,rfl,⟨rfl,rfl,ah⟩,⟨_,_,_,_,rfl,rfl,⟨rfl,rfl,ai⟩,⟨_,rfl,aj⟩⟩⟩⟩⟩⟩⟩⟩
theorem xE(fp:List Nat)(cs:Array Value)(x:(aX d))(left:Int)(w:World)(hx:Rd.rd fp w cs.toList x)(h0:0≤left)(h1:left≤1048576):
  Qz 181 #[.agg cs,.int .i64 left] w (.int .i64 (less left (aU x))):=by
 obtain⟨⟨q,s⟩,⟨B,D,E,H,I,J,K⟩⟩:=x;obtain⟨aV,aZ,rfl,-,aj,U,au,ax,ay,aL,X,Y,Z⟩:=kr q s B D E H I J K hx;have ae:=(bO q s aj U:Rd.rd (α:=ag) _ w _ _);obtain⟨h,O⟩:∃y:ag,y=(q,s):=⟨_,rfl⟩;rw[←O] at ae;have aN:=Kz O;clear O;have ah:=(bJ B D E H I J K au ax ay aL X Y Z:Rd.rd (α:=(aA d)) _ w _ _);obtain⟨y1,T⟩:∃y:(aA d),y=(B,D,E,H,I,J,K):=⟨_,rfl⟩;rw[←T] at ah;have aS:=Kz T;clear T;unfold maxLen at U;unfold maxLen at X;unfold maxLen at Y;obtain⟨bg,bq,rfl,bB,bD,-⟩:=Z.open;have ai:aU ((q,s),(B,D,E,H,I,J,K))=(dn h)+(ak y1):=by rw[aN.o];rw[aS.o];rfl
 have HW:=Kz ai;clear ai hx;delta Qz;go_in;go_wp2_with fail;refine(tT _ _ h _ _ (Rd.gr ae gd) (by omega) (by omega)).mono ?_;rintro e w0 ⟨rfl,x0,rfl⟩;have bH:=fD (left) (dn h) (by omega);go_wp2_with fail
 ·go_ret
  refine⟨aC ?_,gd⟩;have:=aH left (aU ((q,s),(B,D,E,H,I,J,K)));have:=HW.o;have:=aH (left) (dn h);omega
 ·skip
  refine(qx _ _ y1 _ _ (Rd.gr ah gd) (by have:=aH (left) (dn h);omega) (by have:=aH (left) (dn h);omega)).mono ?_;rintro e w1 ⟨rfl,x1,rfl⟩;have bK:=fD (less (left) (dn h)) (ak y1) (by have:=aH (left) (dn h);omega);go_wp2_with fail
  ·go_ret
   refine⟨aC ?_,gd⟩;have:=aH left (aU ((q,s),(B,D,E,H,I,J,K)));have:=HW.o;have:=aH (left) (dn h);have:=aH (less (left) (dn h)) (ak y1);omega
  ·skip
   go_ret;refine⟨aC ?_,gd⟩;have:=aH left (aU ((q,s),(B,D,E,H,I,J,K)));have:=HW.o;have:=aH (left) (dn h);have:=aH (less (left) (dn h)) (ak y1);omega
theorem Ar(h:Int)(q:ByteArray)(s:Int)(B:Int)(D:Int)(E:Int)(H:ByteArray)(I:ByteArray)(J:List (GE d))(K:Int)(O:ByteArray)(T:Int)(U:Int)(X:Int)(Y:Int)(Z:ByteArray)(ae:ByteArray)(ah:List (GE d))(e0:(h,q)=(K,O))(e1:(s,B,D,E,H,I,J)=(T,U,X,Y,Z,ae,ah)):(((h,q),(s,B,D,E,H,I,J)):(aX d))=((K,O),(T,U,X,Y,Z,ae,ah)):=by
 exact Prod.ext_iff.2 ⟨e0,e1⟩
theorem xB(fp fq:List Nat)(cs ds:Array Value)(x y:(aX d))(w:World)(hx:Rd.rd fp w cs.toList x)(hy:Rd.rd fq w ds.toList y):
  Qz 214 #[.agg cs,.agg ds] w (.bool (decide (x=y))):=by
 obtain⟨⟨D,E⟩,⟨H,I,J,K,O,T,U⟩⟩:=x;obtain⟨⟨X,Y⟩,⟨Z,ae,ah,ai,aj,au,ax⟩⟩:=y;obtain⟨fu,fw,rfl,-,bH,bK,bL,bN,bV,cK,cO,dz,ay⟩:=kr D E H I J K O T U hx;obtain⟨fA,fK,rfl,-,dA,dC,dG,dL,dU,dW,eH,fe,aL⟩:=kr X Y Z ae ah ai aj au ax hy;have aN:=(bO D E bH bK:Rd.rd (α:=ag) _ w _ _);obtain⟨y0,h⟩:∃y:ag,y=(D,E):=⟨_,rfl⟩;rw[←h] at aN;have aS:=Kz h;clear h;have aV:=(bJ H I J K O T U bL bN bV cK cO dz ay:Rd.rd (α:=(aA d)) _ w _ _);obtain⟨y1,q⟩:∃y:(aA d),y=(H,I,J,K,O,T,U):=⟨_,rfl⟩;rw[←q] at aV;have aZ:=Kz q;clear q;have bg:=(bO X Y dA dC:Rd.rd (α:=ag) _ w _ _);obtain⟨z0,s⟩:∃y:ag,y=(X,Y):=⟨_,rfl⟩;rw[←s] at bg;have bq:=Kz s;clear s;have bB:=(bJ Z ae ah ai aj au ax dG dL dU dW eH fe aL:Rd.rd (α:=(aA d)) _ w _ _);obtain⟨z1,B⟩:∃y:(aA d),y=(Z,ae,ah,ai,aj,au,ax):=⟨_,rfl⟩;rw[←B] at bB;have bD:=Kz B;clear B;obtain⟨gm,gB,rfl,-,-,-⟩:=ay.open;obtain⟨gD,gF,rfl,-,-,-⟩:=aL.open;clear hx hy;delta Qz;go_in;go_wp2_with fail;refine(LM _ _ _ _ y0 z0 _ (Rd.gr aN gd) (Rd.gr bg gd)).mono ?_;rintro e w0 ⟨rfl,x0,rfl⟩;go_wp2_with fail
 ·have ht:(!decide (y0=z0))=true:=by assumption
  go_ret;exact⟨aa (decide_eq_false fun e=>iy ht (aS.o.trans ((congrArg (fun z:(aX d)=>z.1) e).trans bq.o.symm))).symm,gd⟩
 ·skip
  have e0:=Kz (iq (show(!decide (y0=z0))=false by assumption));refine(qI _ _ _ _ y1 z1 _ (Rd.gr aV gd) (Rd.gr bB gd)).mono ?_;rintro e w1 ⟨rfl,x1,rfl⟩;go_wp2_with fail
  ·have ht:(!decide (y1=z1))=true:=by assumption
   go_ret;exact⟨aa (decide_eq_false fun e=>iy ht (aZ.o.trans ((congrArg (fun z:(aX d)=>z.2) e).trans bD.o.symm))).symm,gd⟩
  ·skip
   have e1:=Kz (iq (show(!decide (y1=z1))=false by assumption));go_ret;exact⟨aa (decide_eq_true (Ar D E H I J K O T U X Y Z ae ah ai aj au ax (aS.o.symm.trans (e0.o.trans bq.o)) (aZ.o.symm.trans (e1.o.trans bD.o)))).symm,gd⟩
theorem xI(fp:List Nat)(cs:Array Value)(x:(aX d))(w:World)(hx:Rd.rd fp w cs.toList x)(hl:aU x≤1048576):
  Calls Tryz.prog 197 #[.agg cs] w fun e w'=>∃ds fq,e=.returned (.agg ds)∧Rd.rd fq w' ds.toList x∧aY w fq∧Gr w w':=by
 obtain⟨⟨I,J⟩,⟨h,q,s,B,D,E,H⟩⟩:=x;obtain⟨bH,bK,rfl,-,T,U,X,Y,Z,ae,ah,ai,aj⟩:=kr I J h q s B D E H hx;have au:=(bO I J T U:Rd.rd (α:=ag) _ w _ _);obtain⟨y0,K⟩:∃y:ag,y=(I,J):=⟨_,rfl⟩;rw[←K] at au;have bB:=Kz K;clear K;have ax:=(bJ h q s B D E H X Y Z ae ah ai aj:Rd.rd (α:=(aA d)) _ w _ _);obtain⟨y1,O⟩:∃y:(aA d),y=(h,q,s,B,D,E,H):=⟨_,rfl⟩;rw[←O] at ax;have ay:=Kz O;clear O;obtain⟨bL,bN,rfl,-,-,-⟩:=aj.open;have bg:aU ((I,J),(h,q,s,B,D,E,H))=(dn y0)+(ak y1):=by rw[bB.o];rw[ay.o];rfl
 have HW:=Kz bg;clear bg hx;go_in;go_wp2_with fail;refine(sJ _ _ y0 _ (Rd.gr au gd)).mono ?_;rintro e w0 ⟨rfl,x0,rfl⟩;go_wp2_with fail;refine(qF _ _ y1 _ (Rd.gr ax gd) (by have:=HW.o;omega)).mono ?_;rintro e w1 ⟨cK,g1,rfl,s1,aL,x1,rfl⟩;rw[ay.o] at s1;obtain⟨bV,bD,rfl,bq,-,-,-,-,-,-,aN⟩:=aF h q s B D E H s1;rw[bq] at aL;clear bq;obtain⟨aV,aZ,rfl,-,-,-⟩:=aN.open;go_wp2_with fail
 have aS:aY w bD:=by
  exact(aY.of_le aL (by simp<;>omega))
 exact bodyPost_ret (v:=.agg #[.int .i64 I,.string J,.int .i64 h,.int .i64 q,.int .i64 s,.int .i64 B,.string D,.string E,.slice aV H.length aZ]) (by simp[results,Tryz.results197,go_sem]) rfl
  ⟨_,_,rfl,ql I J h q s B D E H T U X Y Z ae ah ai (SlR.moved aN aL gd (by simp)),aS,gd⟩
def cz(xs:List (aX d)):Nat:=wtL aU xs
theorem vw(fp:List Nat)(u:Value)(xs:List (aX d))(left:Int)(w:World)(hu:SlR fp w u xs)(Y:0≤left)(h1:left≤1048576):
  Qz 117 #[u,.int .i64 left] w (.int .i64 (less left (cz xs))):=by
 obtain⟨a,ca,rfl,g1,g2,J⟩:=hu.open
 by_cases E:left - xs.length<0
 ·have hle:less left (cz xs)= -1:=by unfold less cz wtL;rw[if_pos (by omega)]
  have Z:=Kz hle;clear hle;delta Qz;go_in
  go_wp2
  go_ret;exact⟨aC Z.o.symm,Gr.refl w⟩
 ·have D:less left xs.length=left - xs.length:=by unfold less;rw[if_neg E]
  have K:=Kz D;clear D;delta Qz;go_in
  go_wp2
  go_loopw [5,1] (fun H s1 wr=>∃(k:Nat) (m:Int),k≤xs.length∧0≤m∧m≤1048576∧Ky (m=less left (xs.length+((xs.take k).map aU).sum))∧Gr w wr∧H=.int .i64 k∧s1=.int .i64 m) (fun H _ _=>xs.length - (intOf H).toNat)
  case atStart=>exact⟨0,_,by omega,by omega,by omega,Kz (by simp[K.o]),Gr.refl w,rfl,rfl⟩
  case round=>
   obtain⟨k,m,hk,bg,bq,hm,⟨x,rfl⟩,rfl,rfl⟩:=hrel
   by_cases h:k<xs.length
   ·obtain⟨b,off,rfl,hb⟩:=J k h
    have q:=Kz (eZ aU xs k h);obtain⟨bB,bD,bH,bK,bL,bN,bV,cK,cO,ae,ah,ai,dz,O,T,aj,au,ax,ay,aL,aN,aS,aV,aZ,-,-,z0,z1,z2,z3,z4,z5,z6,z7,z8,-⟩:=KY hu h (Gr.refl _);have I:=Lb O T;have X:=fD m (aU xs[k]) (by omega);clear J
    go_wp2_with (go_at_call 181;refine(xE _ _ xs[k] _ _ (Rd.gr I ((Gr.refl w).ext _)) (by omega) (by omega)).mono ?_;rintro e w1 ⟨rfl,y,rfl⟩)
    ·have B:less m (aU xs[k])<0:=by assumption
     go_ret;refine⟨aC ?_,gd⟩;have e:=hm.o;subst e;rw[fE,add_assoc,←q.o] at B;exact(jV B (Nat.add_le_add_left (gJ aU xs (k+1)) _) Y).symm
    ·have B:0≤less m (aU xs[k]):=by assumption
     refine⟨⟨k+1,_,by omega,B,by omega,Kz ?_,gd,by go_num,rfl⟩,by simp[intOf];omega⟩;rw[q.o,hm.o,fE,add_assoc]
   ·have U:k=xs.length:=by omega
    subst U;have s:=hm.o;rw[take_length] at s;have HM:=Kz s;clear s hm
    go_wp2
    go_ret;exact⟨aC HM.o,gd⟩
theorem vM(fp fq:List Nat)(u v:Value)(xs q:List (aX d))(w:World)(hu:SlR fp w u xs)(T:SlR fq w v q):
  Qz 153 #[u,v] w (.bool (decide (xs=q))):=by
 obtain⟨a,ca,rfl,h1,h2,U⟩:=hu.open;obtain⟨c,cc,rfl,g1,g2,X⟩:=T.open
 by_cases D:xs.length=q.length
 ·have I:=Kz D
  have Y:((xs.length:Int)!=(q.length:Int))=false:=by simp[D]
  clear D;delta Qz;go_in
  go_wp2
  go_loopw [5] (fun J wr=>∃k:Nat,k≤xs.length∧xs.take k=q.take k∧Gr w wr∧J=.int .i64 k) (fun J _=>xs.length - (intOf J).toNat)
  case atStart=>exact⟨0,by omega,rfl,Gr.refl w,rfl⟩
  case round=>
   obtain⟨k,hk,s,⟨x,rfl⟩,rfl⟩:=hrel
   by_cases H:k<xs.length
   ·have B:k<q.length:=by have:=I.o;omega
    obtain⟨b,off,rfl,hb⟩:=U k H;obtain⟨b',au,rfl,dW⟩:=X k B;obtain⟨eH,fe,fu,fw,fA,fK,gm,gB,gD,ax,ay,aL,gF,Z,ae,aN,aS,aV,aZ,bg,bq,bB,bD,bH,-,-,z0,z1,z2,z3,z4,z5,z6,z7,z8,-⟩:=KY hu H (Gr.refl _);have K:=Lb Z ae;obtain⟨gH,gM,gT,ik,iw,jN,jX,j4,j5,bK,bL,bN,ku,ah,ai,bV,cK,cO,dz,dA,dC,dG,dL,dU,-,-,ky,kz,kE,kL,kQ,kS,kT,kV,kX,-⟩:=KY T B (Gr.refl _);have O:=Lb ah ai;have hT:=Kz s;clear U X s;go_wp2_with fail;refine wg ?_
    repeat(go_big_quiet_step ((go_at_call 214;refine aG (xB _ _ _ _ xs[k] q[k] _ (Rd.gr K ?_) (Rd.gr O ?_))<;>exact((Gr.refl w).ext _).ext _)))
    refine wq fun nx=>?_
    go_wp2
    ·have s:(!decide (xs[k]=q[k]))=true:=by assumption
     go_ret;have E:xs≠q:=fun e=>iy s (by subst e;rfl)
     exact⟨aa (decide_eq_false E).symm,gd⟩
    ·have s:(!decide (xs[k]=q[k]))=false:=by assumption
     have e2:=iq s;refine⟨⟨k+1,by omega,?_,gd,by go_num⟩,by simp[intOf];omega⟩;rw[List.take_succ_eq_append_getElem H,List.take_succ_eq_append_getElem B,hT.o,e2]
   ·have aj:k=xs.length:=by omega
    subst aj
    have e:xs=q:=by
     have h:=s;have h':=I.o;rw[take_length,h',take_length] at h;exact h
    have E:=Kz e;clear e s
    go_wp2
    go_ret;exact⟨aa (decide_eq_true E.o).symm,gd⟩
 ·have Y:((xs.length:Int)!=(q.length:Int))=true:=by simp;omega
  have e:xs≠q:=fun e=>D (by rw[e])
  have E:=Kz e;clear e D;delta Qz;go_in
  go_wp2
  go_ret;exact⟨aa (decide_eq_false E.o).symm,Gr.refl w⟩
theorem Tryz.AP:(Tryz.prog.info? 134).map (fun i=>(i.zero,i.size,i.bytes))=some (some (.agg #[.int .i64 0,.string ByteArray.empty,.int .i64 0,.int .i64 0,.int .i64 0,.int .i64 0,.string ByteArray.empty,.string ByteArray.empty,.slice none 0 0]),9,112):=by kernel_rfl
theorem vH(fp:List Nat)(u:Value)(xs:List (aX d))(w:World)(hu:SlR fp w u xs)(hlen:cz xs≤1048576):
  Calls Tryz.prog 132 #[u] w fun e w'=>∃v fq,e=.returned v∧SlR fq w' v xs∧aY w fq∧Gr w w':=by
 obtain⟨a,ca,rfl,h1,h2,h3⟩:=hu.open;have fK:xs.length≤1048576:=le_trans (bT aU xs) hlen;obtain⟨i0,hi,Z,ae,ah⟩:=info_parts Tryz.AP;have U:=fun(W:World)=>run_make (P:=Tryz.prog) W 109 134 i0 (.agg #[.int .i64 0,.string ByteArray.empty,.int .i64 0,.int .i64 0,.int .i64 0,.int .i64 0,.string ByteArray.empty,.string ByteArray.empty,.slice none 0 0]) Tryz.underlying109 hi Z .i64 .i64 xs.length xs.length (by omega) (by omega) (by rw[ah];omega) (by omega)
 rw[ae] at U;clear hi Z ae ah;simp only[Int.toNat_natCast] at U;have X:=size_madeCells (Value.agg #[.int .i64 0,.string ByteArray.empty,.int .i64 0,.int .i64 0,.int .i64 0,.int .i64 0,.string ByteArray.empty,.string ByteArray.empty,.slice none 0 0]).cells (xs.length*9);generalize madeCells (Value.agg #[.int .i64 0,.string ByteArray.empty,.int .i64 0,.int .i64 0,.int .i64 0,.int .i64 0,.string ByteArray.empty,.string ByteArray.empty,.slice none 0 0]).cells (xs.length*9)=C0 at U X;have HS:=Kz X;have aL:=Kz hlen;clear X hlen;go_in
 go_wp2
 go_loopw [4] (fun s4 wr=>∃(k:Nat) (C:Array Value) (x:Ext) (fps:List (List Nat)),C.size=xs.length*9∧iF w w.heap.size wr C k fps xs∧wr=(w.alloc (.cells C 134)).ext x∧s4=.int .i64 k) (fun s4 _=>xs.length - (intOf s4).toNat)
 case atStart=>exact⟨0,C0,⟨#[],0⟩,[],HS.o,iF.start _ _ (le_refl _) (by simp),(lX _).symm,rfl⟩
 case round=>
  obtain⟨k,C,x,fps,hC,hp,rfl,rfl⟩:=hrel;have aN:=Kz hC;have hk:=hp.le
  by_cases s:k<xs.length
  ·obtain⟨b,off,rfl,hb⟩:=h3 k s
   have ai:=dI aU xs s;obtain⟨gm,gB,gD,gF,gH,gM,gT,ik,iw,bq,bB,bD,jN,aS,aV,bH,bK,bL,bN,bV,cK,cO,dz,dA,-,-,z0,z1,z2,z3,z4,z5,z6,z7,z8,-⟩:=KY hu s (Gr.refl _);have ax:=Lb aS aV;have y0:k*9<C.size:=by omega
   have y1:k*9+1<C.size:=by omega
   have y2:k*9+2<C.size:=by omega
   have y3:k*9+3<C.size:=by omega
   have y4:k*9+4<C.size:=by omega
   have y5:k*9+5<C.size:=by omega
   have y6:k*9+6<C.size:=by omega
   have y7:k*9+7<C.size:=by omega
   have y8:k*9+8<C.size:=by omega
   have jX:aU xs[k]≤1048576:=le_trans ai aL.o;have aj:k*9+9≤C.size:=by omega
   have HD:=Kz aj;clear hC h3 ai aj
   go_wp2_with (go_at_call 197;refine(xI _ _ xs[k] _ (Rd.gr ax gd) (by omega)).mono ?_;rintro e w1 ⟨ds,fq,rfl,Y,hf,y,rfl⟩;have au:=Y;generalize xs[k]=yr at au;obtain⟨⟨B,D⟩,⟨E,H,I,J,K,O,T⟩⟩:=yr;obtain⟨dC,dG,rfl,aZ,dL,dU,dW,eH,fe,fu,fw,fA,ay⟩:=kr B D E H I J K O T au;obtain⟨h,q,rfl,-,-,-⟩:=ay.open;clear aZ)
   rw[iV,←Gl];refine⟨⟨k+1,setRow C (k*9) [.int .i64 B,.string D,.int .i64 E,.int .i64 H,.int .i64 I,.int .i64 J,.string K,.string O,.slice h T.length q],x.comp y,fps++[fq],?_,?_,rfl,by go_num⟩,by simp[intOf];omega⟩
   ·rw[setRow_size];exact aN.o
   ·refine hp.lT s (C':=setRow C (k*9) [.int .i64 B,.string D,.int .i64 E,.int .i64 H,.int .i64 I,.int .i64 J,.string K,.string O,.slice h T.length q]) (cs:=[.int .i64 B,.string D,.int .i64 E,.int .i64 H,.int .i64 I,.int .i64 J,.string K,.string O,.slice h T.length q]) ?_ hf (fun j hj=>jW _ _ _ _ hj) (jS _ _ _ HD.o)
    exact Y
  ·have bg:k=xs.length:=by omega
   subst bg;obtain⟨fq,Y,hf⟩:=hp.done (iD _ x) (cap:=xs.length) (le_refl _) (by unfold bn;omega);have HF:=Kz Y;clear Y hC
   go_wp2
   go_ret;exact⟨_,fq,rfl,HF.o,hf,gd⟩
end Go.Proofs.YtdhighcpmcdmmaaGreat
