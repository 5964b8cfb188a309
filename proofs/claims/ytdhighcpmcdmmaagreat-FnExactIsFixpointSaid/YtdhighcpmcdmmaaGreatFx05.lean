/- Contracts and laws towards ReadsOf, part 4 of 54. No condition. -/
import Derived.Test.YtdhighcpmcdmmaaGreatFx02
set_option maxHeartbeats 32000000
set_option maxRecDepth 10000
set_option linter.unusedVariables false
set_option linter.unusedSimpArgs false
namespace Go.Proofs.YtdhighcpmcdmmaaGreat
open Go.RowKit
open _root_.List (take_length)
open _root_.Nat (add_assoc le_refl le_trans)
variable{w u:World}{fp f:List Nat}{cs c:Array Value}{b o n m k:Nat}
abbrev aQ:=ByteArray×Int×Int×Bool
def bI(x:aQ):Nat:=x.1.size
instance decAttribute:DecidableEq aQ:=@instDecidableEqProd _ _ _ (@instDecidableEqProd _ _ _ (@instDecidableEqProd _ _ _ (inferInstance)))
theorem aR(q0:ByteArray)(q1:Int)(q2:Int)(q3:Bool)(h:Rd.rd (α:=aQ) fp w cs.toList (q0,q1,q2,q3)):
  cs=#[.string q0,.int .i64 q1,.int .i64 q2,.bool q3]∧fp=([]++([]++([]++[])))∧q0.size≤maxLen∧(Lit.int .i64 q1).wf=true∧(Lit.int .i64 q2).wf=true:=by
 generalize q:cs.toList=l at h;obtain⟨_,_,_,_,rfl,rfl,⟨rfl,rfl,s⟩,⟨_,_,_,_,rfl,rfl,⟨rfl,rfl,B⟩,⟨_,_,_,_,rfl,rfl,⟨rfl,rfl,D⟩,⟨rfl,rfl⟩⟩⟩⟩:=h;exact⟨Array.toList_inj.1 (by simpa using q),rfl,s,B,D⟩
theorem Ld{x:aQ}(h:Rd.rd fp w c.toList x):
 ∃q0 q1 q2 q3,(q0,q1,q2,q3)=x∧c=#[.string q0,.int .i64 q1,.int .i64 q2,.bool q3]∧Ky (fp=[])∧q0.size≤maxLen∧(Lit.int .i64 q1).wf=true∧(Lit.int .i64 q2).wf=true:=by
 obtain⟨q0,q1,q2,q3⟩:=x;obtain⟨rfl,D,q,s,B⟩:=aR q0 q1 q2 q3 h;exact⟨_,_,_,_,rfl,rfl,Kz D,q,s,B⟩
theorem K5{xs:List (aQ)}(h:SlR f w (.slice (some ⟨b,o,none⟩) n m) xs)(H:k<xs.length)(g:Gr w u):
 ∃q0 q1 q2 q3,Ky ((q0,q1,q2,q3)=xs[k])∧Ky (Rd.rd (α:=aQ) [] w [.string q0,.int .i64 q1,.int .i64 q2,.bool q3] (q0,q1,q2,q3))∧q0.size≤maxLen∧(Lit.int .i64 q1).wf=true∧(Lit.int .i64 q2).wf=true∧u.cell? ⟨b,o+k*4,none⟩=some (.string q0)∧u.cell? ⟨b,o+k*4+1,none⟩=some (.int .i64 q1)∧u.cell? ⟨b,o+k*4+2,none⟩=some (.int .i64 q2)∧u.cell? ⟨b,o+k*4+3,none⟩=some (.bool q3)∧b<u.heap.size:=by
 obtain⟨_,J,hc,q⟩:=h.el H;obtain⟨q0,q1,q2,q3,s,rfl,I,B,D,E⟩:=Ld q;obtain rfl:=I.o;have z:=g.keep (hc 0 _ rfl);exact⟨_,_,_,_,Kz s,Lt s q,B,D,E,z,g.keep (hc 1 _ rfl),g.keep (hc 2 _ rfl),g.keep (hc 3 _ rfl),blk z⟩
theorem jk(q0:ByteArray)(q1:Int)(q2:Int)(q3:Bool)(h:q0.size≤maxLen)(q:(Lit.int .i64 q1).wf=true)(s:(Lit.int .i64 q2).wf=true):
  Rd.rd (α:=aQ) (([]++([]++([]++[])))) w [.string q0,.int .i64 q1,.int .i64 q2,.bool q3] (q0,q1,q2,q3):=⟨_,_,_,_,rfl,rfl,⟨rfl,rfl,h⟩,⟨_,_,_,_,rfl,rfl,⟨rfl,rfl,q⟩,⟨_,_,_,_,rfl,rfl,⟨rfl,rfl,s⟩,⟨rfl,rfl⟩⟩⟩⟩
theorem vP(fp:List Nat)(cs:Array Value)(x:aQ)(left:Int)(w:World)(q:Rd.rd fp w cs.toList x)(H:0≤left)(I:left≤1048576):
  Qz 180 #[.agg cs,.int .i64 left] w (.int .i64 (less left (bI x))):=by
 obtain⟨q0,q1,q2,q3,rfl,rfl,-,s,D,E⟩:=Ld q;unfold maxLen at s;have h:bI (q0,q1,q2,q3)=(q0.size):=by rfl
 have B:=Kz h;clear h q;delta Qz;go_in;go_wp2_with fail
 ·go_ret
  refine⟨aC ?_,gd⟩;have:=aH left (bI (q0,q1,q2,q3));have:=B.o;omega
 ·skip
  go_ret;refine⟨aC ?_,gd⟩;have:=aH left (bI (q0,q1,q2,q3));have:=B.o;omega
theorem yC(q0:ByteArray)(q1:Int)(q2:Int)(q3:Bool)(h:ByteArray)(q:Int)(s:Int)(B:Bool)(D:q0=h)(E:q1=q)(H:q2=s)(I:q3=B):((q0,q1,q2,q3):aQ)=(h,q,s,B):=by
 exact Prod.ext_iff.2 ⟨D,Prod.ext_iff.2 ⟨E,Prod.ext_iff.2 ⟨H,I⟩⟩⟩
theorem vz(fp fq:List Nat)(cs E:Array Value)(x y:aQ)(w:World)(H:Rd.rd fp w cs.toList x)(I:Rd.rd fq w E.toList y):
  Qz 213 #[.agg cs,.agg E] w (.bool (decide (x=y))):=by
 obtain⟨q0,q1,q2,q3⟩:=x;obtain⟨q,s,B,D⟩:=y;obtain⟨rfl,-,U,X,Y⟩:=aR q0 q1 q2 q3 H;obtain⟨rfl,-,Z,ae,ah⟩:=aR q s B D I;clear H I;delta Qz;go_in;go_wp2_with fail
 ·have h:(!q0.toList==q.toList)=true:=by assumption
  go_ret;exact⟨aa (decide_eq_false fun e=>lg h (congrArg (fun z:aQ=>z.1) e)).symm,gd⟩
 ·have h:(q1 !=s)=true:=by assumption
  go_ret;exact⟨aa (decide_eq_false fun e=>int_ne h (congrArg (fun z:aQ=>z.2.1) e)).symm,gd⟩
 ·have h:(q2 !=B)=true:=by assumption
  go_ret;exact⟨aa (decide_eq_false fun e=>int_ne h (congrArg (fun z:aQ=>z.2.2.1) e)).symm,gd⟩
 ·have h:(q3 !=D)=true:=by assumption
  go_ret;exact⟨aa (decide_eq_false fun e=>ET h (congrArg (fun z:aQ=>z.2.2.2) e)).symm,gd⟩
 ·skip
  have J:=Kz (str_eq (show(!q0.toList==q.toList)=false by assumption));have K:=Kz (int_eq (show(q1 !=s)=false by assumption));have O:=Kz (int_eq (show(q2 !=B)=false by assumption));have T:=Kz (Fa (show(q3 !=D)=false by assumption));go_ret;exact⟨aa (decide_eq_true (yC q0 q1 q2 q3 q s B D J.o K.o O.o T.o)).symm,gd⟩
theorem vk(fp:List Nat)(cs:Array Value)(x:aQ)(w:World)(h:Rd.rd fp w cs.toList x):
  Qz 196 #[.agg cs] w (.agg cs):=by
 obtain⟨q0,q1,q2,q3,rfl,rfl,-,q,s,B⟩:=Ld h;clear h;delta Qz;go_in;go_wp2_with fail;exact bodyPost_ret (v:=.agg #[.string q0,.int .i64 q1,.int .i64 q2,.bool q3]) (by simp[results,Tryz.results196,go_sem]) rfl ⟨rfl,gd⟩
def dP(xs:List aQ):Nat:=wtL bI xs
theorem tZ(fp:List Nat)(u:Value)(xs:List aQ)(left:Int)(w:World)(hu:SlR fp w u xs)(Y:0≤left)(h1:left≤1048576):
  Qz 115 #[u,.int .i64 left] w (.int .i64 (less left (dP xs))):=by
 obtain⟨a,ca,rfl,g1,g2,J⟩:=hu.open
 by_cases E:left - xs.length<0
 ·have hle:less left (dP xs)= -1:=by unfold less dP wtL;rw[if_pos (by omega)]
  have Z:=Kz hle;clear hle;delta Qz;go_in
  go_wp2
  go_ret;exact⟨aC Z.o.symm,Gr.refl w⟩
 ·have D:less left xs.length=left - xs.length:=by unfold less;rw[if_neg E]
  have K:=Kz D;clear D;delta Qz;go_in
  go_wp2
  go_loopw [5,1] (fun H s1 wr=>∃(k:Nat) (m:Int),k≤xs.length∧0≤m∧m≤1048576∧Ky (m=less left (xs.length+((xs.take k).map bI).sum))∧Gr w wr∧H=.int .i64 k∧s1=.int .i64 m) (fun H _ _=>xs.length - (intOf H).toNat)
  case atStart=>exact⟨0,_,by omega,by omega,by omega,Kz (by simp[K.o]),Gr.refl w,rfl,rfl⟩
  case round=>
   obtain⟨k,m,hk,ae,ah,hm,⟨x,rfl⟩,rfl,rfl⟩:=hrel
   by_cases h:k<xs.length
   ·obtain⟨b,off,rfl,hb⟩:=J k h
    have q:=Kz (eZ bI xs k h);obtain⟨q0,q1,q2,q3,O,T,ai,aj,au,z0,z1,z2,z3,-⟩:=K5 hu h (Gr.refl _);have I:=Lb O T;have X:=fD m (bI xs[k]) (by omega);clear J
    go_wp2_with (go_at_call 180;refine(vP _ _ xs[k] _ _ (Rd.gr I ((Gr.refl w).ext _)) (by omega) (by omega)).mono ?_;rintro e w1 ⟨rfl,y,rfl⟩)
    ·have B:less m (bI xs[k])<0:=by assumption
     go_ret;refine⟨aC ?_,gd⟩;have e:=hm.o;subst e;rw[fE,add_assoc,←q.o] at B;exact(jV B (Nat.add_le_add_left (gJ bI xs (k+1)) _) Y).symm
    ·have B:0≤less m (bI xs[k]):=by assumption
     refine⟨⟨k+1,_,by omega,B,by omega,Kz ?_,gd,by go_num,rfl⟩,by simp[intOf];omega⟩;rw[q.o,hm.o,fE,add_assoc]
   ·have U:k=xs.length:=by omega
    subst U;have s:=hm.o;rw[take_length] at s;have HM:=Kz s;clear s hm
    go_wp2
    go_ret;exact⟨aC HM.o,gd⟩
theorem sP(fp fq:List Nat)(u v:Value)(xs q:List aQ)(w:World)(hu:SlR fp w u xs)(T:SlR fq w v q):
  Qz 151 #[u,v] w (.bool (decide (xs=q))):=by
 obtain⟨a,ca,rfl,h1,h2,U⟩:=hu.open;obtain⟨c,cc,rfl,g1,g2,X⟩:=T.open
 by_cases D:xs.length=q.length
 ·have I:=Kz D
  have Y:((xs.length:Int)!=(q.length:Int))=false:=by simp[D]
  clear D;delta Qz;go_in
  go_wp2
  go_loopw [5] (fun J wr=>∃k:Nat,k≤xs.length∧xs.take k=q.take k∧Gr w wr∧J=.int .i64 k) (fun J _=>xs.length - (intOf J).toNat)
  case atStart=>exact⟨0,by omega,rfl,Gr.refl w,rfl⟩
  case round=>
   obtain⟨k,hk,s,⟨x,rfl⟩,rfl⟩:=hrel
   by_cases H:k<xs.length
   ·have B:k<q.length:=by have:=I.o;omega
    obtain⟨b,off,rfl,hb⟩:=U k H;obtain⟨b',au,rfl,ax⟩:=X k B;obtain⟨q0,q1,q2,q3,Z,ae,ay,aL,aN,z0,z1,z2,z3,-⟩:=K5 hu H (Gr.refl _);have K:=Lb Z ae;obtain⟨p0,p1,p2,p3,ah,ai,aS,aV,aZ,bg,bq,bB,bD,-⟩:=K5 T B (Gr.refl _);have O:=Lb ah ai;have hT:=Kz s;clear U X s;go_wp2_with fail;refine wg ?_
    repeat(go_big_quiet_step ((go_at_call 213;refine aG (vz _ _ _ _ xs[k] q[k] _ (Rd.gr K ?_) (Rd.gr O ?_))<;>exact((Gr.refl w).ext _).ext _)))
    refine wq fun nx=>?_
    go_wp2
    ·have s:(!decide (xs[k]=q[k]))=true:=by assumption
     go_ret;have E:xs≠q:=fun e=>iy s (by subst e;rfl)
     exact⟨aa (decide_eq_false E).symm,gd⟩
    ·have s:(!decide (xs[k]=q[k]))=false:=by assumption
     have e2:=iq s;refine⟨⟨k+1,by omega,?_,gd,by go_num⟩,by simp[intOf];omega⟩;rw[List.take_succ_eq_append_getElem H,List.take_succ_eq_append_getElem B,hT.o,e2]
   ·have aj:k=xs.length:=by omega
    subst aj
    have e:xs=q:=by
     have h:=s;have h':=I.o;rw[take_length,h',take_length] at h;exact h
    have E:=Kz e;clear e s
    go_wp2
    go_ret;exact⟨aa (decide_eq_true E.o).symm,gd⟩
 ·have Y:((xs.length:Int)!=(q.length:Int))=true:=by simp;omega
  have e:xs≠q:=fun e=>D (by rw[e])
  have E:=Kz e;clear e D;delta Qz;go_in
  go_wp2
  go_ret;exact⟨aa (decide_eq_false E.o).symm,Gr.refl w⟩
theorem Tryz.yK:(Tryz.prog.info? 81).map (fun i=>(i.zero,i.size,i.bytes))=some (some (.agg #[.string ByteArray.empty,.int .i64 0,.int .i64 0,.bool false]),4,40):=by kernel_rfl
theorem tQ(fp:List Nat)(u:Value)(xs:List aQ)(w:World)(hu:SlR fp w u xs)(hlen:dP xs≤1048576):
  Calls Tryz.prog 130 #[u] w fun e w'=>∃v fq,e=.returned v∧SlR fq w' v xs∧aY w fq∧Gr w w':=by
 obtain⟨a,ca,rfl,h1,h2,T⟩:=hu.open;have ah:xs.length≤1048576:=le_trans (bT bI xs) hlen;obtain⟨i0,U,D,E,H⟩:=info_parts Tryz.yK;have h:=fun(W:World)=>run_make (P:=Tryz.prog) W 102 81 i0 (.agg #[.string ByteArray.empty,.int .i64 0,.int .i64 0,.bool false]) Tryz.underlying102 U D .i64 .i64 xs.length xs.length (by omega) (by omega) (by rw[H];omega) (by omega)
 rw[E] at h;clear U D E H;simp only[Int.toNat_natCast] at h;have q:=size_madeCells (Value.agg #[.string ByteArray.empty,.int .i64 0,.int .i64 0,.bool false]).cells (xs.length*4);generalize madeCells (Value.agg #[.string ByteArray.empty,.int .i64 0,.int .i64 0,.bool false]).cells (xs.length*4)=C0 at h q;have HS:=Kz q;clear q hlen;go_in
 go_wp2
 go_loopw [4] (fun J wr=>∃(k:Nat) (C:Array Value) (x:Ext) (fps:List (List Nat)),C.size=xs.length*4∧iF w w.heap.size wr C k fps xs∧wr=(w.alloc (.cells C 81)).ext x∧J=.int .i64 k) (fun J _=>xs.length - (intOf J).toNat)
 case atStart=>exact⟨0,C0,⟨#[],0⟩,[],HS.o,iF.start _ _ (le_refl _) (by simp),(lX _).symm,rfl⟩
 case round=>
  obtain⟨k,C,x,fps,K,O,rfl,rfl⟩:=hrel;have X:=Kz K;have hk:=O.le
  by_cases s:k<xs.length
  ·obtain⟨b,off,rfl,hb⟩:=T k s
   obtain⟨q0,q1,q2,q3,Y,Z,ai,aj,au,z0,z1,z2,z3,-⟩:=K5 hu s (Gr.refl _);have B:=Lb Y Z;have y0:k*4<C.size:=by omega
   have y1:k*4+1<C.size:=by omega
   have y2:k*4+2<C.size:=by omega
   have y3:k*4+3<C.size:=by omega
   have I:k*4+4≤C.size:=by omega
   have HD:=Kz I;clear K T I
   go_wp2_with (go_at_call 196;refine(vk _ _ xs[k] _ (Rd.gr B gd)).mono ?_;rintro e w1 ⟨rfl,y,rfl⟩)
   rw[iV,←G7];refine⟨⟨k+1,setRow C (k*4) [.string q0,.int .i64 q1,.int .i64 q2,.bool q3],x.comp y,fps++[[]],?_,?_,rfl,by go_num⟩,by simp[intOf];omega⟩
   ·rw[setRow_size];exact X.o
   ·refine O.lT s (C':=setRow C (k*4) [.string q0,.int .i64 q1,.int .i64 q2,.bool q3]) (cs:=[.string q0,.int .i64 q1,.int .i64 q2,.bool q3]) ?_ (aY.nil _) (fun j hj=>jW _ _ _ _ hj) (jS _ _ _ HD.o)
    exact Rd.gr B gd
  ·have ae:k=xs.length:=by omega
   subst ae;obtain⟨fq,hs,hf⟩:=O.done (iD _ x) (cap:=xs.length) (le_refl _) (by unfold bn;omega);have HF:=Kz hs;clear hs K
   go_wp2
   go_ret;exact⟨_,fq,rfl,HF.o,hf,gd⟩
abbrev bC:=ByteArray×List aQ
def bM(x:bC):Nat:=x.1.size+dP x.2
theorem dB(q0:ByteArray)(q1:List aQ)(h:Rd.rd (α:=bC) fp w cs.toList (q0,q1)):
  ∃q s,cs=#[.string q0,q]∧fp=([]++s)∧q0.size≤maxLen∧SlR s w q q1:=by
 generalize B:cs.toList=l at h;obtain⟨_,_,_,_,rfl,rfl,⟨rfl,rfl,D⟩,⟨q,rfl,E⟩⟩:=h;exact⟨_,_,Array.toList_inj.1 (by simpa using B),rfl,D,E⟩
theorem Lg{x:bC}(h:Rd.rd fp w c.toList x):
 ∃q0 q1 s q B,(q0,q1)=x∧c=#[.string q0,.slice s q1.length q]∧Ky (fp=([]++B))∧q0.size≤maxLen∧SlR B w (.slice s q1.length q) q1∧q1.length≤q∧q1.length≤140737488351232:=by
 obtain⟨q0,q1⟩:=x;obtain⟨K,B,rfl,J,E,D⟩:=dB q0 q1 h;obtain⟨s,q,rfl,H,I,-⟩:=D.open;exact⟨_,_,_,_,_,rfl,rfl,Kz J,E,D,H,I⟩
theorem K9{xs:List (bC)}(h:SlR f w (.slice (some ⟨b,o,none⟩) n m) xs)(T:k<xs.length)(g:Gr w u):
 ∃q0 q1 s q B D,Ky ((q0,q1)=xs[k])∧Ky (Rd.rd (α:=bC) D w [.string q0,.slice s q1.length q] (q0,q1))∧q0.size≤maxLen∧SlR B w (.slice s q1.length q) q1∧q1.length≤q∧q1.length≤140737488351232∧u.cell? ⟨b,o+k*2,none⟩=some (.string q0)∧u.cell? ⟨b,o+k*2+1,none⟩=some (.slice s q1.length q)∧b<u.heap.size:=by
 obtain⟨_,D,hc,E⟩:=h.el T;obtain⟨q0,q1,s,q,B,H,rfl,-,I,J,K,O⟩:=Lg E;have z:=g.keep (hc 0 _ rfl);exact⟨_,_,_,_,_,_,Kz H,Lt H E,I,J,K,O,z,g.keep (hc 1 _ rfl),blk z⟩
theorem xe{x:bC}(h:Rd.rd (α:=bC) fp w cs.toList x):
  ∃q0 q B s,cs=#[.string q0,.slice q B s]:=by
 obtain⟨q0,q1⟩:=x;obtain⟨E,H,rfl,-,-,D⟩:=dB q0 q1 h;obtain⟨q,s,rfl,-,-,-⟩:=D.open;exact⟨_,_,_,_,rfl⟩
theorem iQ(q0:ByteArray)(q1:List aQ){h:Value}{q:List Nat}(s:q0.size≤maxLen)(B:SlR q w h q1):
  Rd.rd (α:=bC) (([]++q)) w [.string q0,h] (q0,q1):=⟨_,_,_,_,rfl,rfl,⟨rfl,rfl,s⟩,⟨_,rfl,B⟩⟩
theorem Av(fp:List Nat)(cs:Array Value)(x:bC)(left:Int)(w:World)(B:Rd.rd fp w cs.toList x)(U:0≤left)(X:left≤1048576):
  Qz 56 #[.agg cs,.int .i64 left] w (.int .i64 (less left (bM x))):=by
 obtain⟨q0,q1⟩:=x;obtain⟨H,D,rfl,-,E,h⟩:=dB q0 q1 B;unfold maxLen at E;obtain⟨I,J,rfl,K,O,-⟩:=h.open;have q:bM (q0,q1)=(q0.size)+(dP q1):=by rfl
 have s:=Kz q;clear q B;delta Qz;go_in;go_wp2_with fail
 ·go_ret
  refine⟨aC ?_,gd⟩;have:=aH left (bM (q0,q1));have:=s.o;omega
 ·skip
  refine(tZ D _ _ _ _ (h.gr gd) (by omega) (by omega)).mono ?_;rintro e w1 ⟨rfl,Y,rfl⟩;have T:=fD (left - ↑q0.size) (dP q1) (by omega);go_wp2_with fail
  ·go_ret
   refine⟨aC ?_,gd⟩;have:=aH left (bM (q0,q1));have:=s.o;have:=aH (left - ↑q0.size) (dP q1);omega
  ·skip
   go_ret;refine⟨aC ?_,gd⟩;have:=aH left (bM (q0,q1));have:=s.o;have:=aH (left - ↑q0.size) (dP q1);omega
theorem DJ(q0:ByteArray)(q1:List aQ)(h:ByteArray)(q:List aQ)(s:q0=h)(B:q1=q):((q0,q1):bC)=(h,q):=by
 exact Prod.ext_iff.2 ⟨s,B⟩
theorem AJ(fp fq:List Nat)(cs E:Array Value)(x y:bC)(w:World)(H:Rd.rd fp w cs.toList x)(I:Rd.rd fq w E.toList y):
  Qz 79 #[.agg cs,.agg E] w (.bool (decide (x=y))):=by
 obtain⟨q0,q1⟩:=x;obtain⟨q,h⟩:=y;obtain⟨U,J,rfl,-,X,s⟩:=dB q0 q1 H;obtain⟨Y,K,rfl,-,Z,B⟩:=dB q h I;obtain⟨ae,ah,rfl,-,-,-⟩:=s.open;obtain⟨ai,aj,rfl,-,-,-⟩:=B.open;clear H I;delta Qz;go_in;go_wp2_with fail
 ·have D:(!q0.toList==q.toList)=true:=by assumption
  go_ret;exact⟨aa (decide_eq_false fun e=>lg D (congrArg (fun z:bC=>z.1) e)).symm,gd⟩
 ·skip
  have O:=Kz (str_eq (show(!q0.toList==q.toList)=false by assumption));refine(sP J K _ _ q1 h _ (s.gr gd) (B.gr gd)).mono ?_;rintro e w1 ⟨rfl,x1,rfl⟩;go_wp2_with fail
  ·have D:(!decide (q1=h))=true:=by assumption
   go_ret;exact⟨aa (decide_eq_false fun e=>iy D (congrArg (fun z:bC=>z.2) e)).symm,gd⟩
  ·skip
   have T:=Kz (iq (show(!decide (q1=h))=false by assumption));go_ret;exact⟨aa (decide_eq_true (DJ q0 q1 q h O.o T.o)).symm,gd⟩
theorem Bi(fp:List Nat)(cs:Array Value)(x:bC)(w:World)(B:Rd.rd fp w cs.toList x)(Y:bM x≤1048576):
  Calls Tryz.prog 66 #[.agg cs] w fun e w'=>∃D fq,e=.returned (.agg D)∧Rd.rd fq w' D.toList x∧aY w fq∧Gr w w':=by
 obtain⟨q0,q1,U,X,E,rfl,rfl,-,H,I,-,-⟩:=Lg B;have q:bM (q0,q1)=(q0.size)+(dP q1):=by rfl
 have O:=Kz q;clear q B;go_in;go_wp2_with fail;refine(tQ E _ _ _ (I.gr gd) (by have:=O.o;omega)).mono ?_;rintro e w1 ⟨Z,T,rfl,s1,s,x1,rfl⟩;obtain⟨J,K,rfl,-,-,-⟩:=s1.open;go_wp2_with fail
 have h:aY w T:=by
  exact(aY.of_le s (by simp<;>omega))
 exact bodyPost_ret (v:=.agg #[.string q0,.slice J q1.length K]) (by simp[results,Tryz.results66,go_sem]) rfl
  ⟨_,_,rfl,iQ q0 q1 H (SlR.moved s1 s gd (by simp)),h,gd⟩
def dH(xs:List bC):Nat:=wtL bM xs
theorem yI(fp:List Nat)(u:Value)(xs:List bC)(left:Int)(w:World)(hu:SlR fp w u xs)(Y:0≤left)(h1:left≤1048576):
  Qz 22 #[u,.int .i64 left] w (.int .i64 (less left (dH xs))):=by
 obtain⟨a,ca,rfl,g1,g2,J⟩:=hu.open
 by_cases E:left - xs.length<0
 ·have hle:less left (dH xs)= -1:=by unfold less dH wtL;rw[if_pos (by omega)]
  have Z:=Kz hle;clear hle;delta Qz;go_in
  go_wp2
  go_ret;exact⟨aC Z.o.symm,Gr.refl w⟩
 ·have D:less left xs.length=left - xs.length:=by unfold less;rw[if_neg E]
  have K:=Kz D;clear D;delta Qz;go_in
  go_wp2
  go_loopw [5,1] (fun H s1 wr=>∃(k:Nat) (m:Int),k≤xs.length∧0≤m∧m≤1048576∧Ky (m=less left (xs.length+((xs.take k).map bM).sum))∧Gr w wr∧H=.int .i64 k∧s1=.int .i64 m) (fun H _ _=>xs.length - (intOf H).toNat)
  case atStart=>exact⟨0,_,by omega,by omega,by omega,Kz (by simp[K.o]),Gr.refl w,rfl,rfl⟩
  case round=>
   obtain⟨k,m,hk,ae,ah,hm,⟨x,rfl⟩,rfl,rfl⟩:=hrel
   by_cases h:k<xs.length
   ·obtain⟨b,off,rfl,hb⟩:=J k h
    have q:=Kz (eZ bM xs k h);obtain⟨q0,q1,ai,aj,au,ax,O,T,ay,aL,-,-,z0,z1,-⟩:=K9 hu h (Gr.refl _);have I:=Lb O T;have X:=fD m (bM xs[k]) (by omega);clear J
    go_wp2_with (go_at_call 56;refine(Av _ _ xs[k] _ _ (Rd.gr I ((Gr.refl w).ext _)) (by omega) (by omega)).mono ?_;rintro e w1 ⟨rfl,y,rfl⟩)
    ·have B:less m (bM xs[k])<0:=by assumption
     go_ret;refine⟨aC ?_,gd⟩;have e:=hm.o;subst e;rw[fE,add_assoc,←q.o] at B;exact(jV B (Nat.add_le_add_left (gJ bM xs (k+1)) _) Y).symm
    ·have B:0≤less m (bM xs[k]):=by assumption
     refine⟨⟨k+1,_,by omega,B,by omega,Kz ?_,gd,by go_num,rfl⟩,by simp[intOf];omega⟩;rw[q.o,hm.o,fE,add_assoc]
   ·have U:k=xs.length:=by omega
    subst U;have s:=hm.o;rw[take_length] at s;have HM:=Kz s;clear s hm
    go_wp2
    go_ret;exact⟨aC HM.o,gd⟩
theorem yw(fp fq:List Nat)(u v:Value)(xs q:List bC)(w:World)(hu:SlR fp w u xs)(T:SlR fq w v q):
  Qz 33 #[u,v] w (.bool (decide (xs=q))):=by
 obtain⟨a,ca,rfl,h1,h2,U⟩:=hu.open;obtain⟨c,cc,rfl,g1,g2,X⟩:=T.open
 by_cases D:xs.length=q.length
 ·have I:=Kz D
  have Y:((xs.length:Int)!=(q.length:Int))=false:=by simp[D]
  clear D;delta Qz;go_in
  go_wp2
  go_loopw [5] (fun J wr=>∃k:Nat,k≤xs.length∧xs.take k=q.take k∧Gr w wr∧J=.int .i64 k) (fun J _=>xs.length - (intOf J).toNat)
  case atStart=>exact⟨0,by omega,rfl,Gr.refl w,rfl⟩
  case round=>
   obtain⟨k,hk,s,⟨x,rfl⟩,rfl⟩:=hrel
   by_cases H:k<xs.length
   ·have B:k<q.length:=by have:=I.o;omega
    obtain⟨b,off,rfl,hb⟩:=U k H;obtain⟨b',au,rfl,ax⟩:=X k B;obtain⟨q0,q1,ay,aL,aN,aS,Z,ae,aV,aZ,-,-,z0,z1,-⟩:=K9 hu H (Gr.refl _);have K:=Lb Z ae;obtain⟨p0,p1,bg,bq,bB,bD,ah,ai,bH,bK,-,-,bL,bN,-⟩:=K9 T B (Gr.refl _);have O:=Lb ah ai;have hT:=Kz s;clear U X s;go_wp2_with fail;refine wg ?_
    repeat(go_big_quiet_step ((go_at_call 79;refine aG (AJ _ _ _ _ xs[k] q[k] _ (Rd.gr K ?_) (Rd.gr O ?_))<;>exact((Gr.refl w).ext _).ext _)))
    refine wq fun nx=>?_
    go_wp2
    ·have s:(!decide (xs[k]=q[k]))=true:=by assumption
     go_ret;have E:xs≠q:=fun e=>iy s (by subst e;rfl)
     exact⟨aa (decide_eq_false E).symm,gd⟩
    ·have s:(!decide (xs[k]=q[k]))=false:=by assumption
     have e2:=iq s;refine⟨⟨k+1,by omega,?_,gd,by go_num⟩,by simp[intOf];omega⟩;rw[List.take_succ_eq_append_getElem H,List.take_succ_eq_append_getElem B,hT.o,e2]
   ·have aj:k=xs.length:=by omega
    subst aj
    have e:xs=q:=by
     have h:=s;have h':=I.o;rw[take_length,h',take_length] at h;exact h
    have E:=Kz e;clear e s
    go_wp2
    go_ret;exact⟨aa (decide_eq_true E.o).symm,gd⟩
 ·have Y:((xs.length:Int)!=(q.length:Int))=true:=by simp;omega
  have e:xs≠q:=fun e=>D (by rw[e])
  have E:=Kz e;clear e D;delta Qz;go_in
  go_wp2
  go_ret;exact⟨aa (decide_eq_false E.o).symm,Gr.refl w⟩
theorem Tryz.DR:(Tryz.prog.info? 104).map (fun i=>(i.zero,i.size,i.bytes))=some (some (.agg #[.string ByteArray.empty,.slice none 0 0]),2,40):=by kernel_rfl
theorem yV(fp:List Nat)(u:Value)(xs:List bC)(w:World)(hu:SlR fp w u xs)(hlen:dH xs≤1048576):
  Calls Tryz.prog 28 #[u] w fun e w'=>∃v fq,e=.returned v∧SlR fq w' v xs∧aY w fq∧Gr w w':=by
 obtain⟨a,ca,rfl,h1,h2,h3⟩:=hu.open;have aN:xs.length≤1048576:=le_trans (bT bM xs) hlen;obtain⟨i0,hi,J,K,O⟩:=info_parts Tryz.DR;have B:=fun(W:World)=>run_make (P:=Tryz.prog) W 33 104 i0 (.agg #[.string ByteArray.empty,.slice none 0 0]) Tryz.underlying33 hi J .i64 .i64 xs.length xs.length (by omega) (by omega) (by rw[O];omega) (by omega)
 rw[K] at B;clear hi J K O;simp only[Int.toNat_natCast] at B;have D:=size_madeCells (Value.agg #[.string ByteArray.empty,.slice none 0 0]).cells (xs.length*2);generalize madeCells (Value.agg #[.string ByteArray.empty,.slice none 0 0]).cells (xs.length*2)=C0 at B D;have HS:=Kz D;have ah:=Kz hlen;clear D hlen;go_in
 go_wp2
 go_loopw [4] (fun Y wr=>∃(k:Nat) (C:Array Value) (x:Ext) (fps:List (List Nat)),C.size=xs.length*2∧iF w w.heap.size wr C k fps xs∧wr=(w.alloc (.cells C 104)).ext x∧Y=.int .i64 k) (fun Y _=>xs.length - (intOf Y).toNat)
 case atStart=>exact⟨0,C0,⟨#[],0⟩,[],HS.o,iF.start _ _ (le_refl _) (by simp),(lX _).symm,rfl⟩
 case round=>
  obtain⟨k,C,x,fps,Z,hp,rfl,rfl⟩:=hrel;have ai:=Kz Z;have hk:=hp.le
  by_cases s:k<xs.length
  ·obtain⟨b,off,rfl,hb⟩:=h3 k s
   have T:=dI bM xs s;obtain⟨q0,q1,aS,aV,aZ,bg,aj,au,bq,bB,-,-,z0,z1,-⟩:=K9 hu s (Gr.refl _);have ae:=Lb aj au;have y0:k*2<C.size:=by omega
   have y1:k*2+1<C.size:=by omega
   have bD:bM xs[k]≤1048576:=le_trans T ah.o;have U:k*2+2≤C.size:=by omega
   have HD:=Kz U;clear Z h3 T U
   go_wp2_with (go_at_call 66;refine(Bi _ _ xs[k] _ (Rd.gr ae gd) (by omega)).mono ?_;rintro e w1 ⟨ds,fq,rfl,E,hf,y,rfl⟩;have X:=E;generalize xs[k]=yr at X;obtain⟨H,I⟩:=yr;obtain⟨bH,bK,rfl,ax,bL,ay⟩:=dB H I X;obtain⟨h,q,rfl,-,-,-⟩:=ay.open;clear ax)
   rw[iV,←Hu];refine⟨⟨k+1,setRow C (k*2) [.string H,.slice h I.length q],x.comp y,fps++[fq],?_,?_,rfl,by go_num⟩,by simp[intOf];omega⟩
   ·rw[setRow_size];exact ai.o
   ·refine hp.lT s (C':=setRow C (k*2) [.string H,.slice h I.length q]) (cs:=[.string H,.slice h I.length q]) ?_ hf (fun j hj=>jW _ _ _ _ hj) (jS _ _ _ HD.o)
    exact E
  ·have aL:k=xs.length:=by omega
   subst aL;obtain⟨fq,E,hf⟩:=hp.done (iD _ x) (cap:=xs.length) (le_refl _) (by unfold bn;omega);have HF:=Kz E;clear E Z
   go_wp2
   go_ret;exact⟨_,fq,rfl,HF.o,hf,gd⟩
abbrev ag:=Int×ByteArray
def dn(x:ag):Nat:=x.2.size
theorem bu(q0:Int)(q1:ByteArray)(h:Rd.rd (α:=ag) fp w cs.toList (q0,q1)):
  cs=#[.int .i64 q0,.string q1]∧fp=([]++[])∧(Lit.int .i64 q0).wf=true∧q1.size≤maxLen:=by
 generalize q:cs.toList=l at h;obtain⟨_,_,_,_,rfl,rfl,⟨rfl,rfl,s⟩,⟨rfl,rfl,B⟩⟩:=h;exact⟨Array.toList_inj.1 (by simpa using q),rfl,s,B⟩
theorem KT{x:ag}(h:Rd.rd fp w c.toList x):
 ∃q0 q1,(q0,q1)=x∧c=#[.int .i64 q0,.string q1]∧Ky (fp=[])∧(Lit.int .i64 q0).wf=true∧q1.size≤maxLen:=by
 obtain⟨q0,q1⟩:=x;obtain⟨rfl,B,q,s⟩:=bu q0 q1 h;exact⟨_,_,rfl,rfl,Kz B,q,s⟩
theorem Le{xs:List (ag)}(h:SlR f w (.slice (some ⟨b,o,none⟩) n m) xs)(E:k<xs.length)(g:Gr w u):
 ∃q0 q1,Ky ((q0,q1)=xs[k])∧Ky (Rd.rd (α:=ag) [] w [.int .i64 q0,.string q1] (q0,q1))∧(Lit.int .i64 q0).wf=true∧q1.size≤maxLen∧u.cell? ⟨b,o+k*2,none⟩=some (.int .i64 q0)∧u.cell? ⟨b,o+k*2+1,none⟩=some (.string q1)∧b<u.heap.size:=by
 obtain⟨_,I,hc,q⟩:=h.el E;obtain⟨q0,q1,s,rfl,H,B,D⟩:=KT q;obtain rfl:=H.o;have z:=g.keep (hc 0 _ rfl);exact⟨_,_,Kz s,Lt s q,B,D,z,g.keep (hc 1 _ rfl),blk z⟩
theorem bO(q0:Int)(q1:ByteArray)(h:(Lit.int .i64 q0).wf=true)(q:q1.size≤maxLen):
  Rd.rd (α:=ag) (([]++[])) w [.int .i64 q0,.string q1] (q0,q1):=⟨_,_,_,_,rfl,rfl,⟨rfl,rfl,h⟩,⟨rfl,rfl,q⟩⟩
theorem tT(fp:List Nat)(cs:Array Value)(x:ag)(left:Int)(w:World)(q:Rd.rd fp w cs.toList x)(E:0≤left)(H:left≤1048576):
  Qz 227 #[.agg cs,.int .i64 left] w (.int .i64 (less left (dn x))):=by
 obtain⟨q0,q1,rfl,rfl,-,D,s⟩:=KT q;unfold maxLen at s;have h:dn (q0,q1)=(q1.size):=by rfl
 have B:=Kz h;clear h q;delta Qz;go_in;go_wp2_with fail
 ·go_ret
  refine⟨aC ?_,gd⟩;have:=aH left (dn (q0,q1));have:=B.o;omega
 ·skip
  go_ret;refine⟨aC ?_,gd⟩;have:=aH left (dn (q0,q1));have:=B.o;omega
theorem xz(q0:Int)(q1:ByteArray)(h:Int)(q:ByteArray)(s:q0=h)(B:q1=q):((q0,q1):ag)=(h,q):=by
 exact Prod.ext_iff.2 ⟨s,B⟩
theorem LM(fp fq:List Nat)(cs B:Array Value)(x y:ag)(w:World)(D:Rd.rd fp w cs.toList x)(E:Rd.rd fq w B.toList y):
  Qz 252 #[.agg cs,.agg B] w (.bool (decide (x=y))):=by
 obtain⟨q0,q1⟩:=x;obtain⟨h,q⟩:=y;obtain⟨rfl,-,J,K⟩:=bu q0 q1 D;obtain⟨rfl,-,O,T⟩:=bu h q E;clear D E;delta Qz;go_in;go_wp2_with fail
 ·have s:(q0 !=h)=true:=by assumption
  go_ret;exact⟨aa (decide_eq_false fun e=>int_ne s (congrArg (fun z:ag=>z.1) e)).symm,gd⟩
 ·have s:(!q1.toList==q.toList)=true:=by assumption
  go_ret;exact⟨aa (decide_eq_false fun e=>lg s (congrArg (fun z:ag=>z.2) e)).symm,gd⟩
 ·skip
  have H:=Kz (int_eq (show(q0 !=h)=false by assumption));have I:=Kz (str_eq (show(!q1.toList==q.toList)=false by assumption));go_ret;exact⟨aa (decide_eq_true (xz q0 q1 h q H.o I.o)).symm,gd⟩
theorem sJ(fp:List Nat)(cs:Array Value)(x:ag)(w:World)(h:Rd.rd fp w cs.toList x):
  Qz 241 #[.agg cs] w (.agg cs):=by
 obtain⟨q0,q1,rfl,rfl,-,q,s⟩:=KT h;clear h;delta Qz;go_in;go_wp2_with fail;exact bodyPost_ret (v:=.agg #[.int .i64 q0,.string q1]) (by simp[results,Tryz.results241,go_sem]) rfl ⟨rfl,gd⟩
end Go.Proofs.YtdhighcpmcdmmaaGreat
