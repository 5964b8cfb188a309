/- Contracts and laws towards ReadsOf, part 4 of 54. No condition. -/
import Derived.Test.YtleafadpfeibfaaGreatRx02
set_option maxHeartbeats 32000000
set_option maxRecDepth 10000
set_option linter.unusedVariables false
set_option linter.unusedSimpArgs false
namespace Go.Proofs.YtleafadpfeibfaaGreat
open Go.RowKit
open _root_.List (take_length)
open _root_.Nat (add_assoc le_refl le_trans)
variable{w u:World}{fp f:List Nat}{cs c:Array Value}{b o n m k:Nat}
abbrev aQ:=ByteArray×Int×Int×Bool
def bI(x:aQ):Nat:=x.1.size
instance decAttribute:DecidableEq aQ:=@instDecidableEqProd _ _ _ (@instDecidableEqProd _ _ _ (@instDecidableEqProd _ _ _ (inferInstance)))
theorem aR(q0:ByteArray)(q1:Int)(q2:Int)(q3:Bool)(h:Rd.rd (α:=aQ) fp w cs.toList (q0,q1,q2,q3)):
  cs=#[.string q0,.int .i64 q1,.int .i64 q2,.bool q3]∧fp=([]++([]++([]++[])))∧q0.size≤maxLen∧(Lit.int .i64 q1).wf=true∧(Lit.int .i64 q2).wf=true:=by
 generalize q:cs.toList=l at h;obtain⟨_,_,_,_,rfl,rfl,⟨rfl,rfl,B⟩,⟨_,_,_,_,rfl,rfl,⟨rfl,rfl,D⟩,⟨_,_,_,_,rfl,rfl,⟨rfl,rfl,I⟩,⟨rfl,rfl⟩⟩⟩⟩:=h;exact⟨Array.toList_inj.1 (by simpa using q),rfl,B,D,I⟩
theorem Ld{x:aQ}(h:Rd.rd fp w c.toList x):
 ∃q0 q1 q2 q3,(q0,q1,q2,q3)=x∧c=#[.string q0,.int .i64 q1,.int .i64 q2,.bool q3]∧Ky (fp=[])∧q0.size≤maxLen∧(Lit.int .i64 q1).wf=true∧(Lit.int .i64 q2).wf=true:=by
 obtain⟨q0,q1,q2,q3⟩:=x;obtain⟨rfl,I,q,B,D⟩:=aR q0 q1 q2 q3 h;exact⟨_,_,_,_,rfl,rfl,Kz I,q,B,D⟩
theorem K5{xs:List (aQ)}(h:SlR f w (.slice (some ⟨b,o,none⟩) n m) xs)(J:k<xs.length)(g:Gr w u):
 ∃q0 q1 q2 q3,Ky ((q0,q1,q2,q3)=xs[k])∧Ky (Rd.rd (α:=aQ) [] w [.string q0,.int .i64 q1,.int .i64 q2,.bool q3] (q0,q1,q2,q3))∧q0.size≤maxLen∧(Lit.int .i64 q1).wf=true∧(Lit.int .i64 q2).wf=true∧u.cell? ⟨b,o+k*4,none⟩=some (.string q0)∧u.cell? ⟨b,o+k*4+1,none⟩=some (.int .i64 q1)∧u.cell? ⟨b,o+k*4+2,none⟩=some (.int .i64 q2)∧u.cell? ⟨b,o+k*4+3,none⟩=some (.bool q3)∧b<u.heap.size:=by
 obtain⟨_,O,hc,hr⟩:=h.el J;obtain⟨q0,q1,q2,q3,q,rfl,K,B,D,I⟩:=Ld hr;obtain rfl:=K.o;have z:=g.keep (hc 0 _ rfl);exact⟨_,_,_,_,Kz q,Lt q hr,B,D,I,z,g.keep (hc 1 _ rfl),g.keep (hc 2 _ rfl),g.keep (hc 3 _ rfl),blk z⟩
theorem jk(q0:ByteArray)(q1:Int)(q2:Int)(q3:Bool)(h:q0.size≤maxLen)(q:(Lit.int .i64 q1).wf=true)(B:(Lit.int .i64 q2).wf=true):
  Rd.rd (α:=aQ) (([]++([]++([]++[])))) w [.string q0,.int .i64 q1,.int .i64 q2,.bool q3] (q0,q1,q2,q3):=⟨_,_,_,_,rfl,rfl,⟨rfl,rfl,h⟩,⟨_,_,_,_,rfl,rfl,⟨rfl,rfl,q⟩,⟨_,_,_,_,rfl,rfl,⟨rfl,rfl,B⟩,⟨rfl,rfl⟩⟩⟩⟩
theorem vP(fp:List Nat)(cs:Array Value)(x:aQ)(left:Int)(w:World)(q:Rd.rd fp w cs.toList x)(K:0≤left)(h1:left≤1048576):
  Qz 119 #[.agg cs,.int .i64 left] w (.int .i64 (less left (bI x))):=by
 obtain⟨q0,q1,q2,q3,rfl,rfl,-,B,I,J⟩:=Ld q;unfold maxLen at B;have h:bI (q0,q1,q2,q3)=(q0.size):=by rfl
 have D:=Kz h;clear h q;delta Qz;go_in;go_wp2_with fail
 ·go_ret
  refine⟨aC ?_,gd⟩;have:=aH left (bI (q0,q1,q2,q3));have:=D.o;omega
 ·skip
  go_ret;refine⟨aC ?_,gd⟩;have:=aH left (bI (q0,q1,q2,q3));have:=D.o;omega
theorem yC(q0:ByteArray)(q1:Int)(q2:Int)(q3:Bool)(h:ByteArray)(q:Int)(B:Int)(D:Bool)(I:q0=h)(J:q1=q)(K:q2=B)(O:q3=D):((q0,q1,q2,q3):aQ)=(h,q,B,D):=by
 exact Prod.ext_iff.2 ⟨I,Prod.ext_iff.2 ⟨J,Prod.ext_iff.2 ⟨K,O⟩⟩⟩
theorem vz(fp fq:List Nat)(cs I:Array Value)(x y:aQ)(w:World)(J:Rd.rd fp w cs.toList x)(K:Rd.rd fq w I.toList y):
  Qz 149 #[.agg cs,.agg I] w (.bool (decide (x=y))):=by
 obtain⟨q0,q1,q2,q3⟩:=x;obtain⟨h,q,B,D⟩:=y;obtain⟨rfl,-,X,Y,Z⟩:=aR q0 q1 q2 q3 J;obtain⟨rfl,-,ae,ah,ai⟩:=aR h q B D K;clear J K;delta Qz;go_in;go_wp2_with fail
 ·have ht:(!q0.toList==h.toList)=true:=by assumption
  go_ret;exact⟨aa (decide_eq_false fun e=>lg ht (congrArg (fun z:aQ=>z.1) e)).symm,gd⟩
 ·have ht:(q1 !=q)=true:=by assumption
  go_ret;exact⟨aa (decide_eq_false fun e=>int_ne ht (congrArg (fun z:aQ=>z.2.1) e)).symm,gd⟩
 ·have ht:(q2 !=B)=true:=by assumption
  go_ret;exact⟨aa (decide_eq_false fun e=>int_ne ht (congrArg (fun z:aQ=>z.2.2.1) e)).symm,gd⟩
 ·have ht:(q3 !=D)=true:=by assumption
  go_ret;exact⟨aa (decide_eq_false fun e=>ET ht (congrArg (fun z:aQ=>z.2.2.2) e)).symm,gd⟩
 ·skip
  have O:=Kz (str_eq (show(!q0.toList==h.toList)=false by assumption));have T:=Kz (int_eq (show(q1 !=q)=false by assumption));have U:=Kz (int_eq (show(q2 !=B)=false by assumption));have V:=Kz (Fa (show(q3 !=D)=false by assumption));go_ret;exact⟨aa (decide_eq_true (yC q0 q1 q2 q3 h q B D O.o T.o U.o V.o)).symm,gd⟩
theorem vk(fp:List Nat)(cs:Array Value)(x:aQ)(w:World)(h:Rd.rd fp w cs.toList x):
  Qz 131 #[.agg cs] w (.agg cs):=by
 obtain⟨q0,q1,q2,q3,rfl,rfl,-,q,B,D⟩:=Ld h;clear h;delta Qz;go_in;go_wp2_with fail;exact bodyPost_ret (v:=.agg #[.string q0,.int .i64 q1,.int .i64 q2,.bool q3]) (by simp[results,Tryz.results131,go_sem]) rfl ⟨rfl,gd⟩
def dP(xs:List aQ):Nat:=wtL bI xs
theorem tZ(fp:List Nat)(u:Value)(xs:List aQ)(left:Int)(w:World)(hu:SlR fp w u xs)(Z:0≤left)(h1:left≤1048576):
  Qz 88 #[u,.int .i64 left] w (.int .i64 (less left (dP xs))):=by
 obtain⟨a,ca,rfl,g1,g2,g3⟩:=hu.open
 by_cases J:left - xs.length<0
 ·have hle:less left (dP xs)= -1:=by unfold less dP wtL;rw[if_pos (by omega)]
  have HL:=Kz hle;clear hle;delta Qz;go_in
  go_wp2
  go_ret;exact⟨aC HL.o.symm,Gr.refl w⟩
 ·have I:less left xs.length=left - xs.length:=by unfold less;rw[if_neg J]
  have T:=Kz I;clear I;delta Qz;go_in
  go_wp2
  go_loopw [5,1] (fun K s1 wr=>∃(k:Nat) (m:Int),k≤xs.length∧0≤m∧m≤1048576∧Ky (m=less left (xs.length+((xs.take k).map bI).sum))∧Gr w wr∧K=.int .i64 k∧s1=.int .i64 m) (fun K _ _=>xs.length - (intOf K).toNat)
  case atStart=>exact⟨0,_,by omega,by omega,by omega,Kz (by simp[T.o]),Gr.refl w,rfl,rfl⟩
  case round=>
   obtain⟨k,m,hk,ae,ah,hm,⟨x,rfl⟩,rfl,rfl⟩:=hrel
   by_cases h:k<xs.length
   ·obtain⟨b,off,rfl,hb⟩:=g3 k h
    have q:=Kz (eZ bI xs k h);obtain⟨q0,q1,q2,q3,U,V,ai,aj,ak,z0,z1,z2,z3,-⟩:=K5 hu h (Gr.refl _);have O:=Lb U V;have Y:=fD m (bI xs[k]) (by omega);clear g3
    go_wp2_with (go_at_call 119;refine(vP _ _ xs[k] _ _ (Rd.gr O ((Gr.refl w).ext _)) (by omega) (by omega)).mono ?_;rintro e w1 ⟨rfl,y,rfl⟩)
    ·have D:less m (bI xs[k])<0:=by assumption
     go_ret;refine⟨aC ?_,gd⟩;have e:=hm.o;subst e;rw[fE,add_assoc,←q.o] at D;exact(jV D (Nat.add_le_add_left (gJ bI xs (k+1)) _) Z).symm
    ·have D:0≤less m (bI xs[k]):=by assumption
     refine⟨⟨k+1,_,by omega,D,by omega,Kz ?_,gd,by go_num,rfl⟩,by simp[intOf];omega⟩;rw[q.o,hm.o,fE,add_assoc]
   ·have X:k=xs.length:=by omega
    subst X;have B:=hm.o;rw[take_length] at B;have HM:=Kz B;clear B hm
    go_wp2
    go_ret;exact⟨aC HM.o,gd⟩
theorem sP(fp fq:List Nat)(u v:Value)(xs q:List aQ)(w:World)(hu:SlR fp w u xs)(hv:SlR fq w v q):
  Qz 111 #[u,v] w (.bool (decide (xs=q))):=by
 obtain⟨a,ca,rfl,h1,h2,U⟩:=hu.open;obtain⟨c,cc,rfl,g1,g2,g3⟩:=hv.open
 by_cases D:xs.length=q.length
 ·have J:=Kz D
  have V:((xs.length:Int)!=(q.length:Int))=false:=by simp[D]
  clear D;delta Qz;go_in
  go_wp2
  go_loopw [5] (fun K wr=>∃k:Nat,k≤xs.length∧xs.take k=q.take k∧Gr w wr∧K=.int .i64 k) (fun K _=>xs.length - (intOf K).toNat)
  case atStart=>exact⟨0,by omega,rfl,Gr.refl w,rfl⟩
  case round=>
   obtain⟨k,hk,ht,⟨x,rfl⟩,rfl⟩:=hrel
   by_cases I:k<xs.length
   ·have B:k<q.length:=by have:=J.o;omega
    obtain⟨b,off,rfl,hb⟩:=U k I;obtain⟨b',ai,rfl,aj⟩:=g3 k B;obtain⟨q0,q1,q2,q3,X,Y,ak,au,ax,z0,z1,z2,z3,-⟩:=K5 hu I (Gr.refl _);have O:=Lb X Y;obtain⟨p0,p1,p2,p3,Z,ae,ay,aZ,bg,bq,bB,bH,bL,-⟩:=K5 hv B (Gr.refl _);have T:=Lb Z ae;have hT:=Kz ht;clear U g3 ht;go_wp2_with fail;refine wg ?_
    repeat(go_big_quiet_step ((go_at_call 149;refine aG (vz _ _ _ _ xs[k] q[k] _ (Rd.gr O ?_) (Rd.gr T ?_))<;>exact((Gr.refl w).ext _).ext _)))
    refine wq fun nx=>?_
    go_wp2
    ·have ht:(!decide (xs[k]=q[k]))=true:=by assumption
     go_ret;have E:xs≠q:=fun e=>iy ht (by subst e;rfl)
     exact⟨aa (decide_eq_false E).symm,gd⟩
    ·have ht:(!decide (xs[k]=q[k]))=false:=by assumption
     have e2:=iq ht;refine⟨⟨k+1,by omega,?_,gd,by go_num⟩,by simp[intOf];omega⟩;rw[List.take_succ_eq_append_getElem I,List.take_succ_eq_append_getElem B,hT.o,e2]
   ·have ah:k=xs.length:=by omega
    subst ah
    have e:xs=q:=by
     have h:=ht;have h':=J.o;rw[take_length,h',take_length] at h;exact h
    have E:=Kz e;clear e ht
    go_wp2
    go_ret;exact⟨aa (decide_eq_true E.o).symm,gd⟩
 ·have V:((xs.length:Int)!=(q.length:Int))=true:=by simp;omega
  have e:xs≠q:=fun e=>D (by rw[e])
  have E:=Kz e;clear e D;delta Qz;go_in
  go_wp2
  go_ret;exact⟨aa (decide_eq_false E.o).symm,Gr.refl w⟩
theorem Tryz.yK:(Tryz.prog.info? 144).map (fun i=>(i.zero,i.size,i.bytes))=some (some (.agg #[.string ByteArray.empty,.int .i64 0,.int .i64 0,.bool false]),4,40):=by kernel_rfl
theorem tQ(fp:List Nat)(u:Value)(xs:List aQ)(w:World)(hu:SlR fp w u xs)(hlen:dP xs≤1048576):
  Calls Tryz.prog 99 #[u] w fun e w'=>∃v fq,e=.returned v∧SlR fq w' v xs∧aY w fq∧Gr w w':=by
 obtain⟨a,ca,rfl,h1,h2,X⟩:=hu.open;have ai:xs.length≤1048576:=le_trans (bT bI xs) hlen;obtain⟨i0,hi,I,J,K⟩:=info_parts Tryz.yK;have h:=fun(W:World)=>run_make (P:=Tryz.prog) W 121 144 i0 (.agg #[.string ByteArray.empty,.int .i64 0,.int .i64 0,.bool false]) Tryz.underlying121 hi I .i64 .i64 xs.length xs.length (by omega) (by omega) (by rw[K];omega) (by omega)
 rw[J] at h;clear hi I J K;simp only[Int.toNat_natCast] at h;have q:=size_madeCells (Value.agg #[.string ByteArray.empty,.int .i64 0,.int .i64 0,.bool false]).cells (xs.length*4);generalize madeCells (Value.agg #[.string ByteArray.empty,.int .i64 0,.int .i64 0,.bool false]).cells (xs.length*4)=C0 at h q;have HS:=Kz q;clear q hlen;go_in
 go_wp2
 go_loopw [4] (fun T wr=>∃(k:Nat) (C:Array Value) (x:Ext) (fps:List (List Nat)),C.size=xs.length*4∧iF w w.heap.size wr C k fps xs∧wr=(w.alloc (.cells C 144)).ext x∧T=.int .i64 k) (fun T _=>xs.length - (intOf T).toNat)
 case atStart=>exact⟨0,C0,⟨#[],0⟩,[],HS.o,iF.start _ _ (le_refl _) (by simp),(lX _).symm,rfl⟩
 case round=>
  obtain⟨k,C,x,fps,U,V,rfl,rfl⟩:=hrel;have Y:=Kz U;have hk:=V.le
  by_cases B:k<xs.length
  ·obtain⟨b,off,rfl,hb⟩:=X k B
   obtain⟨q0,q1,q2,q3,Z,ae,aj,ak,au,z0,z1,z2,z3,-⟩:=K5 hu B (Gr.refl _);have D:=Lb Z ae;have y0:k*4<C.size:=by omega
   have y1:k*4+1<C.size:=by omega
   have y2:k*4+2<C.size:=by omega
   have y3:k*4+3<C.size:=by omega
   have O:k*4+4≤C.size:=by omega
   have HD:=Kz O;clear U X O
   go_wp2_with (go_at_call 131;refine(vk _ _ xs[k] _ (Rd.gr D gd)).mono ?_;rintro e w1 ⟨rfl,y,rfl⟩)
   rw[iV,←G7];refine⟨⟨k+1,setRow C (k*4) [.string q0,.int .i64 q1,.int .i64 q2,.bool q3],x.comp y,fps++[[]],?_,?_,rfl,by go_num⟩,by simp[intOf];omega⟩
   ·rw[setRow_size];exact Y.o
   ·refine V.lT B (C':=setRow C (k*4) [.string q0,.int .i64 q1,.int .i64 q2,.bool q3]) (cs:=[.string q0,.int .i64 q1,.int .i64 q2,.bool q3]) ?_ (aY.nil _) (fun j hj=>jW _ _ _ _ hj) (jS _ _ _ HD.o)
    exact Rd.gr D gd
  ·have ah:k=xs.length:=by omega
   subst ah;obtain⟨fq,hs,hf⟩:=V.done (iD _ x) (cap:=xs.length) (le_refl _) (by unfold bn;omega);have HF:=Kz hs;clear hs U
   go_wp2
   go_ret;exact⟨_,fq,rfl,HF.o,hf,gd⟩
abbrev bC:=ByteArray×List aQ
def bM(x:bC):Nat:=x.1.size+dP x.2
theorem aV(q0:ByteArray)(q1:List aQ)(h:Rd.rd (α:=bC) fp w cs.toList (q0,q1)):
  ∃q B,cs=#[.string q0,q]∧fp=([]++B)∧q0.size≤maxLen∧SlR B w q q1:=by
 generalize D:cs.toList=l at h;obtain⟨_,_,_,_,rfl,rfl,⟨rfl,rfl,I⟩,⟨q,rfl,J⟩⟩:=h;exact⟨_,_,Array.toList_inj.1 (by simpa using D),rfl,I,J⟩
theorem Lg{x:bC}(h:Rd.rd fp w c.toList x):
 ∃q0 q1 B q D,(q0,q1)=x∧c=#[.string q0,.slice B q1.length q]∧Ky (fp=([]++D))∧q0.size≤maxLen∧SlR D w (.slice B q1.length q) q1∧q1.length≤q∧q1.length≤140737488351232:=by
 obtain⟨q0,q1⟩:=x;obtain⟨U,D,rfl,T,J,I⟩:=aV q0 q1 h;obtain⟨B,q,rfl,K,O,-⟩:=I.open;exact⟨_,_,_,_,_,rfl,rfl,Kz T,J,I,K,O⟩
theorem K9{xs:List (bC)}(h:SlR f w (.slice (some ⟨b,o,none⟩) n m) xs)(V:k<xs.length)(g:Gr w u):
 ∃q0 q1 B q D I,Ky ((q0,q1)=xs[k])∧Ky (Rd.rd (α:=bC) I w [.string q0,.slice B q1.length q] (q0,q1))∧q0.size≤maxLen∧SlR D w (.slice B q1.length q) q1∧q1.length≤q∧q1.length≤140737488351232∧u.cell? ⟨b,o+k*2,none⟩=some (.string q0)∧u.cell? ⟨b,o+k*2+1,none⟩=some (.slice B q1.length q)∧b<u.heap.size:=by
 obtain⟨_,I,hc,hr⟩:=h.el V;obtain⟨q0,q1,B,q,D,J,rfl,-,K,O,T,U⟩:=Lg hr;have z:=g.keep (hc 0 _ rfl);exact⟨_,_,_,_,_,_,Kz J,Lt J hr,K,O,T,U,z,g.keep (hc 1 _ rfl),blk z⟩
theorem xe{x:bC}(h:Rd.rd (α:=bC) fp w cs.toList x):
  ∃q0 q D B,cs=#[.string q0,.slice q D B]:=by
 obtain⟨q0,q1⟩:=x;obtain⟨J,K,rfl,-,-,I⟩:=aV q0 q1 h;obtain⟨q,B,rfl,-,-,-⟩:=I.open;exact⟨_,_,_,_,rfl⟩
theorem iQ(q0:ByteArray)(q1:List aQ){h:Value}{q:List Nat}(B:q0.size≤maxLen)(D:SlR q w h q1):
  Rd.rd (α:=bC) (([]++q)) w [.string q0,h] (q0,q1):=⟨_,_,_,_,rfl,rfl,⟨rfl,rfl,B⟩,⟨_,rfl,D⟩⟩
theorem Av(fp:List Nat)(cs:Array Value)(x:bC)(left:Int)(w:World)(D:Rd.rd fp w cs.toList x)(Y:0≤left)(h1:left≤1048576):
  Qz 63 #[.agg cs,.int .i64 left] w (.int .i64 (less left (bM x))):=by
 obtain⟨q0,q1⟩:=x;obtain⟨K,I,rfl,-,J,h⟩:=aV q0 q1 D;unfold maxLen at J;obtain⟨O,T,rfl,U,V,-⟩:=h.open;have q:bM (q0,q1)=(q0.size)+(dP q1):=by rfl
 have B:=Kz q;clear q D;delta Qz;go_in;go_wp2_with fail
 ·go_ret
  refine⟨aC ?_,gd⟩;have:=aH left (bM (q0,q1));have:=B.o;omega
 ·skip
  refine(tZ I _ _ _ _ (h.gr gd) (by omega) (by omega)).mono ?_;rintro e w1 ⟨rfl,Z,rfl⟩;have X:=fD (left - ↑q0.size) (dP q1) (by omega);go_wp2_with fail
  ·go_ret
   refine⟨aC ?_,gd⟩;have:=aH left (bM (q0,q1));have:=B.o;have:=aH (left - ↑q0.size) (dP q1);omega
  ·skip
   go_ret;refine⟨aC ?_,gd⟩;have:=aH left (bM (q0,q1));have:=B.o;have:=aH (left - ↑q0.size) (dP q1);omega
theorem DJ(q0:ByteArray)(q1:List aQ)(h:ByteArray)(q:List aQ)(B:q0=h)(D:q1=q):((q0,q1):bC)=(h,q):=by
 exact Prod.ext_iff.2 ⟨B,D⟩
theorem AJ(fp fq:List Nat)(cs I:Array Value)(x y:bC)(w:World)(J:Rd.rd fp w cs.toList x)(K:Rd.rd fq w I.toList y):
  Qz 78 #[.agg cs,.agg I] w (.bool (decide (x=y))):=by
 obtain⟨q0,q1⟩:=x;obtain⟨q,h⟩:=y;obtain⟨X,O,rfl,-,Y,B⟩:=aV q0 q1 J;obtain⟨Z,T,rfl,-,ae,D⟩:=aV q h K;obtain⟨ah,ai,rfl,-,-,-⟩:=B.open;obtain⟨aj,ak,rfl,-,-,-⟩:=D.open;clear J K;delta Qz;go_in;go_wp2_with fail
 ·have ht:(!q0.toList==q.toList)=true:=by assumption
  go_ret;exact⟨aa (decide_eq_false fun e=>lg ht (congrArg (fun z:bC=>z.1) e)).symm,gd⟩
 ·skip
  have U:=Kz (str_eq (show(!q0.toList==q.toList)=false by assumption));refine(sP O T _ _ q1 h _ (B.gr gd) (D.gr gd)).mono ?_;rintro e w1 ⟨rfl,x1,rfl⟩;go_wp2_with fail
  ·have ht:(!decide (q1=h))=true:=by assumption
   go_ret;exact⟨aa (decide_eq_false fun e=>iy ht (congrArg (fun z:bC=>z.2) e)).symm,gd⟩
  ·skip
   have V:=Kz (iq (show(!decide (q1=h))=false by assumption));go_ret;exact⟨aa (decide_eq_true (DJ q0 q1 q h U.o V.o)).symm,gd⟩
theorem Bi(fp:List Nat)(cs:Array Value)(x:bC)(w:World)(D:Rd.rd fp w cs.toList x)(Z:bM x≤1048576):
  Calls Tryz.prog 71 #[.agg cs] w fun e w'=>∃I fq,e=.returned (.agg I)∧Rd.rd fq w' I.toList x∧aY w fq∧Gr w w':=by
 obtain⟨q0,q1,X,Y,J,rfl,rfl,-,K,O,-,-⟩:=Lg D;have q:bM (q0,q1)=(q0.size)+(dP q1):=by rfl
 have V:=Kz q;clear q D;go_in;go_wp2_with fail;refine(tQ J _ _ _ (O.gr gd) (by have:=V.o;omega)).mono ?_;rintro e w1 ⟨u1,g1,rfl,s1,B,x1,rfl⟩;obtain⟨T,U,rfl,-,-,-⟩:=s1.open;go_wp2_with fail
 have h:aY w g1:=by
  exact(aY.of_le B (by simp<;>omega))
 exact bodyPost_ret (v:=.agg #[.string q0,.slice T q1.length U]) (by simp[results,Tryz.results71,go_sem]) rfl
  ⟨_,_,rfl,iQ q0 q1 K (SlR.moved s1 B gd (by simp)),h,gd⟩
def dH(xs:List bC):Nat:=wtL bM xs
theorem yI(fp:List Nat)(u:Value)(xs:List bC)(left:Int)(w:World)(hu:SlR fp w u xs)(Z:0≤left)(h1:left≤1048576):
  Qz 33 #[u,.int .i64 left] w (.int .i64 (less left (dH xs))):=by
 obtain⟨a,ca,rfl,g1,g2,g3⟩:=hu.open
 by_cases J:left - xs.length<0
 ·have hle:less left (dH xs)= -1:=by unfold less dH wtL;rw[if_pos (by omega)]
  have HL:=Kz hle;clear hle;delta Qz;go_in
  go_wp2
  go_ret;exact⟨aC HL.o.symm,Gr.refl w⟩
 ·have I:less left xs.length=left - xs.length:=by unfold less;rw[if_neg J]
  have T:=Kz I;clear I;delta Qz;go_in
  go_wp2
  go_loopw [5,1] (fun K s1 wr=>∃(k:Nat) (m:Int),k≤xs.length∧0≤m∧m≤1048576∧Ky (m=less left (xs.length+((xs.take k).map bM).sum))∧Gr w wr∧K=.int .i64 k∧s1=.int .i64 m) (fun K _ _=>xs.length - (intOf K).toNat)
  case atStart=>exact⟨0,_,by omega,by omega,by omega,Kz (by simp[T.o]),Gr.refl w,rfl,rfl⟩
  case round=>
   obtain⟨k,m,hk,ae,ah,hm,⟨x,rfl⟩,rfl,rfl⟩:=hrel
   by_cases h:k<xs.length
   ·obtain⟨b,off,rfl,hb⟩:=g3 k h
    have q:=Kz (eZ bM xs k h);obtain⟨q0,q1,ai,aj,ak,au,U,V,ax,ay,-,-,z0,z1,-⟩:=K9 hu h (Gr.refl _);have O:=Lb U V;have Y:=fD m (bM xs[k]) (by omega);clear g3
    go_wp2_with (go_at_call 63;refine(Av _ _ xs[k] _ _ (Rd.gr O ((Gr.refl w).ext _)) (by omega) (by omega)).mono ?_;rintro e w1 ⟨rfl,y,rfl⟩)
    ·have D:less m (bM xs[k])<0:=by assumption
     go_ret;refine⟨aC ?_,gd⟩;have e:=hm.o;subst e;rw[fE,add_assoc,←q.o] at D;exact(jV D (Nat.add_le_add_left (gJ bM xs (k+1)) _) Z).symm
    ·have D:0≤less m (bM xs[k]):=by assumption
     refine⟨⟨k+1,_,by omega,D,by omega,Kz ?_,gd,by go_num,rfl⟩,by simp[intOf];omega⟩;rw[q.o,hm.o,fE,add_assoc]
   ·have X:k=xs.length:=by omega
    subst X;have B:=hm.o;rw[take_length] at B;have HM:=Kz B;clear B hm
    go_wp2
    go_ret;exact⟨aC HM.o,gd⟩
theorem yw(fp fq:List Nat)(u v:Value)(xs q:List bC)(w:World)(hu:SlR fp w u xs)(hv:SlR fq w v q):
  Qz 46 #[u,v] w (.bool (decide (xs=q))):=by
 obtain⟨a,ca,rfl,h1,h2,U⟩:=hu.open;obtain⟨c,cc,rfl,g1,g2,g3⟩:=hv.open
 by_cases D:xs.length=q.length
 ·have J:=Kz D
  have V:((xs.length:Int)!=(q.length:Int))=false:=by simp[D]
  clear D;delta Qz;go_in
  go_wp2
  go_loopw [5] (fun K wr=>∃k:Nat,k≤xs.length∧xs.take k=q.take k∧Gr w wr∧K=.int .i64 k) (fun K _=>xs.length - (intOf K).toNat)
  case atStart=>exact⟨0,by omega,rfl,Gr.refl w,rfl⟩
  case round=>
   obtain⟨k,hk,ht,⟨x,rfl⟩,rfl⟩:=hrel
   by_cases I:k<xs.length
   ·have B:k<q.length:=by have:=J.o;omega
    obtain⟨b,off,rfl,hb⟩:=U k I;obtain⟨b',ai,rfl,aj⟩:=g3 k B;obtain⟨q0,q1,ak,au,ax,ay,X,Y,aZ,bg,-,-,z0,z1,-⟩:=K9 hu I (Gr.refl _);have O:=Lb X Y;obtain⟨p0,p1,bq,bB,bH,bL,Z,ae,bR,bX,-,-,cB,cK,-⟩:=K9 hv B (Gr.refl _);have T:=Lb Z ae;have hT:=Kz ht;clear U g3 ht;go_wp2_with fail;refine wg ?_
    repeat(go_big_quiet_step ((go_at_call 78;refine aG (AJ _ _ _ _ xs[k] q[k] _ (Rd.gr O ?_) (Rd.gr T ?_))<;>exact((Gr.refl w).ext _).ext _)))
    refine wq fun nx=>?_
    go_wp2
    ·have ht:(!decide (xs[k]=q[k]))=true:=by assumption
     go_ret;have E:xs≠q:=fun e=>iy ht (by subst e;rfl)
     exact⟨aa (decide_eq_false E).symm,gd⟩
    ·have ht:(!decide (xs[k]=q[k]))=false:=by assumption
     have e2:=iq ht;refine⟨⟨k+1,by omega,?_,gd,by go_num⟩,by simp[intOf];omega⟩;rw[List.take_succ_eq_append_getElem I,List.take_succ_eq_append_getElem B,hT.o,e2]
   ·have ah:k=xs.length:=by omega
    subst ah
    have e:xs=q:=by
     have h:=ht;have h':=J.o;rw[take_length,h',take_length] at h;exact h
    have E:=Kz e;clear e ht
    go_wp2
    go_ret;exact⟨aa (decide_eq_true E.o).symm,gd⟩
 ·have V:((xs.length:Int)!=(q.length:Int))=true:=by simp;omega
  have e:xs≠q:=fun e=>D (by rw[e])
  have E:=Kz e;clear e D;delta Qz;go_in
  go_wp2
  go_ret;exact⟨aa (decide_eq_false E.o).symm,Gr.refl w⟩
theorem Tryz.DR:(Tryz.prog.info? 123).map (fun i=>(i.zero,i.size,i.bytes))=some (some (.agg #[.string ByteArray.empty,.slice none 0 0]),2,40):=by kernel_rfl
theorem yV(fp:List Nat)(u:Value)(xs:List bC)(w:World)(hu:SlR fp w u xs)(hlen:dH xs≤1048576):
  Calls Tryz.prog 39 #[u] w fun e w'=>∃v fq,e=.returned v∧SlR fq w' v xs∧aY w fq∧Gr w w':=by
 obtain⟨a,ca,rfl,h1,h2,h3⟩:=hu.open;have ay:xs.length≤1048576:=le_trans (bT bM xs) hlen;obtain⟨i0,hi,O,T,U⟩:=info_parts Tryz.DR;have D:=fun(W:World)=>run_make (P:=Tryz.prog) W 36 123 i0 (.agg #[.string ByteArray.empty,.slice none 0 0]) Tryz.underlying36 hi O .i64 .i64 xs.length xs.length (by omega) (by omega) (by rw[U];omega) (by omega)
 rw[T] at D;clear hi O T U;simp only[Int.toNat_natCast] at D;have I:=size_madeCells (Value.agg #[.string ByteArray.empty,.slice none 0 0]).cells (xs.length*2);generalize madeCells (Value.agg #[.string ByteArray.empty,.slice none 0 0]).cells (xs.length*2)=C0 at D I;have HS:=Kz I;have ah:=Kz hlen;clear I hlen;go_in
 go_wp2
 go_loopw [4] (fun Z wr=>∃(k:Nat) (C:Array Value) (x:Ext) (fps:List (List Nat)),C.size=xs.length*2∧iF w w.heap.size wr C k fps xs∧wr=(w.alloc (.cells C 123)).ext x∧Z=.int .i64 k) (fun Z _=>xs.length - (intOf Z).toNat)
 case atStart=>exact⟨0,C0,⟨#[],0⟩,[],HS.o,iF.start _ _ (le_refl _) (by simp),(lX _).symm,rfl⟩
 case round=>
  obtain⟨k,C,x,fps,hC,hp,rfl,rfl⟩:=hrel;have ai:=Kz hC;have hk:=hp.le
  by_cases B:k<xs.length
  ·obtain⟨b,off,rfl,hb⟩:=h3 k B
   have V:=dI bM xs B;obtain⟨q0,q1,aZ,bg,bq,bB,aj,ak,bH,bL,-,-,z0,z1,-⟩:=K9 hu B (Gr.refl _);have ae:=Lb aj ak;have y0:k*2<C.size:=by omega
   have y1:k*2+1<C.size:=by omega
   have bR:bM xs[k]≤1048576:=le_trans V ah.o;have X:k*2+2≤C.size:=by omega
   have HD:=Kz X;clear hC h3 V X
   go_wp2_with (go_at_call 71;refine(Bi _ _ xs[k] _ (Rd.gr ae gd) (by omega)).mono ?_;rintro e w1 ⟨ds,fq,rfl,hs,hf,y,rfl⟩;have Y:=hs;generalize xs[k]=yr at Y;obtain⟨J,K⟩:=yr;obtain⟨bX,cB,rfl,-,cK,au⟩:=aV J K Y;obtain⟨h,q,rfl,-,-,-⟩:=au.open)
   rw[iV,←Hu];refine⟨⟨k+1,setRow C (k*2) [.string J,.slice h K.length q],x.comp y,fps++[fq],?_,?_,rfl,by go_num⟩,by simp[intOf];omega⟩
   ·rw[setRow_size];exact ai.o
   ·refine hp.lT B (C':=setRow C (k*2) [.string J,.slice h K.length q]) (cs:=[.string J,.slice h K.length q]) ?_ hf (fun j hj=>jW _ _ _ _ hj) (jS _ _ _ HD.o)
    exact hs
  ·have ax:k=xs.length:=by omega
   subst ax;obtain⟨fq,hs,hf⟩:=hp.done (iD _ x) (cap:=xs.length) (le_refl _) (by unfold bn;omega);have HF:=Kz hs;clear hs hC
   go_wp2
   go_ret;exact⟨_,fq,rfl,HF.o,hf,gd⟩
abbrev ag:=Int×ByteArray
def dn(x:ag):Nat:=x.2.size
theorem bu(q0:Int)(q1:ByteArray)(h:Rd.rd (α:=ag) fp w cs.toList (q0,q1)):
  cs=#[.int .i64 q0,.string q1]∧fp=([]++[])∧(Lit.int .i64 q0).wf=true∧q1.size≤maxLen:=by
 generalize q:cs.toList=l at h;obtain⟨_,_,_,_,rfl,rfl,⟨rfl,rfl,B⟩,⟨rfl,rfl,D⟩⟩:=h;exact⟨Array.toList_inj.1 (by simpa using q),rfl,B,D⟩
theorem KT{x:ag}(h:Rd.rd fp w c.toList x):
 ∃q0 q1,(q0,q1)=x∧c=#[.int .i64 q0,.string q1]∧Ky (fp=[])∧(Lit.int .i64 q0).wf=true∧q1.size≤maxLen:=by
 obtain⟨q0,q1⟩:=x;obtain⟨rfl,D,q,B⟩:=bu q0 q1 h;exact⟨_,_,rfl,rfl,Kz D,q,B⟩
theorem Le{xs:List (ag)}(h:SlR f w (.slice (some ⟨b,o,none⟩) n m) xs)(I:k<xs.length)(g:Gr w u):
 ∃q0 q1,Ky ((q0,q1)=xs[k])∧Ky (Rd.rd (α:=ag) [] w [.int .i64 q0,.string q1] (q0,q1))∧(Lit.int .i64 q0).wf=true∧q1.size≤maxLen∧u.cell? ⟨b,o+k*2,none⟩=some (.int .i64 q0)∧u.cell? ⟨b,o+k*2+1,none⟩=some (.string q1)∧b<u.heap.size:=by
 obtain⟨_,K,hc,hr⟩:=h.el I;obtain⟨q0,q1,q,rfl,J,B,D⟩:=KT hr;obtain rfl:=J.o;have z:=g.keep (hc 0 _ rfl);exact⟨_,_,Kz q,Lt q hr,B,D,z,g.keep (hc 1 _ rfl),blk z⟩
theorem bO(q0:Int)(q1:ByteArray)(h:(Lit.int .i64 q0).wf=true)(q:q1.size≤maxLen):
  Rd.rd (α:=ag) (([]++[])) w [.int .i64 q0,.string q1] (q0,q1):=⟨_,_,_,_,rfl,rfl,⟨rfl,rfl,h⟩,⟨rfl,rfl,q⟩⟩
theorem tT(fp:List Nat)(cs:Array Value)(x:ag)(left:Int)(w:World)(q:Rd.rd fp w cs.toList x)(J:0≤left)(h1:left≤1048576):
  Qz 152 #[.agg cs,.int .i64 left] w (.int .i64 (less left (dn x))):=by
 obtain⟨q0,q1,rfl,rfl,-,I,B⟩:=KT q;unfold maxLen at B;have h:dn (q0,q1)=(q1.size):=by rfl
 have D:=Kz h;clear h q;delta Qz;go_in;go_wp2_with fail
 ·go_ret
  refine⟨aC ?_,gd⟩;have:=aH left (dn (q0,q1));have:=D.o;omega
 ·skip
  go_ret;refine⟨aC ?_,gd⟩;have:=aH left (dn (q0,q1));have:=D.o;omega
theorem xz(q0:Int)(q1:ByteArray)(h:Int)(q:ByteArray)(B:q0=h)(D:q1=q):((q0,q1):ag)=(h,q):=by
 exact Prod.ext_iff.2 ⟨B,D⟩
theorem sN(fp fq:List Nat)(cs B:Array Value)(x y:ag)(w:World)(D:Rd.rd fp w cs.toList x)(I:Rd.rd fq w B.toList y):
  Qz 188 #[.agg cs,.agg B] w (.bool (decide (x=y))):=by
 obtain⟨q0,q1⟩:=x;obtain⟨h,q⟩:=y;obtain⟨rfl,-,O,T⟩:=bu q0 q1 D;obtain⟨rfl,-,U,V⟩:=bu h q I;clear D I;delta Qz;go_in;go_wp2_with fail
 ·have ht:(q0 !=h)=true:=by assumption
  go_ret;exact⟨aa (decide_eq_false fun e=>int_ne ht (congrArg (fun z:ag=>z.1) e)).symm,gd⟩
 ·have ht:(!q1.toList==q.toList)=true:=by assumption
  go_ret;exact⟨aa (decide_eq_false fun e=>lg ht (congrArg (fun z:ag=>z.2) e)).symm,gd⟩
 ·skip
  have J:=Kz (int_eq (show(q0 !=h)=false by assumption));have K:=Kz (str_eq (show(!q1.toList==q.toList)=false by assumption));go_ret;exact⟨aa (decide_eq_true (xz q0 q1 h q J.o K.o)).symm,gd⟩
theorem sJ(fp:List Nat)(cs:Array Value)(x:ag)(w:World)(h:Rd.rd fp w cs.toList x):
  Qz 169 #[.agg cs] w (.agg cs):=by
 obtain⟨q0,q1,rfl,rfl,-,q,B⟩:=KT h;clear h;delta Qz;go_in;go_wp2_with fail;exact bodyPost_ret (v:=.agg #[.int .i64 q0,.string q1]) (by simp[results,Tryz.results169,go_sem]) rfl ⟨rfl,gd⟩
end Go.Proofs.YtleafadpfeibfaaGreat
