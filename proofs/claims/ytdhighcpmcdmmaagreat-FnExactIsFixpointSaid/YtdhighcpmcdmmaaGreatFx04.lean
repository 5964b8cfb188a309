/- Contracts and laws towards ReadsOf, part 7 of 54. No condition. -/
import Derived.Test.YtdhighcpmcdmmaaGreatFx02
import Derived.Lib.SliceRun
import Derived.Laws.EntriesVeiled
set_option maxHeartbeats 32000000
set_option maxRecDepth 10000
set_option linter.unusedVariables false
set_option linter.unusedSimpArgs false
namespace Go.Proofs.YtdhighcpmcdmmaaGreat
open Go.RowKit
open _root_.List (take_length)
open _root_.Nat (le_refl le_trans)
abbrev aT:=Int×Int×Int×Int×ByteArray×List Int
def fT(x:aT):Nat:=x.2.2.2.2.1.size+x.2.2.2.2.2.length
instance decNode:DecidableEq aT:=@instDecidableEqProd _ _ _ (@instDecidableEqProd _ _ _ (@instDecidableEqProd _ _ _ (@instDecidableEqProd _ _ _ (@instDecidableEqProd _ _ _ (inferInstance)))))
theorem bA{fp:List Nat}{w:World}{cs:Array Value}(q0:Int)(q1:Int)(q2:Int)(q3:Int)(q4:ByteArray)(q5:List Int)(h:Rd.rd (α:=aT) fp w cs.toList (q0,q1,q2,q3,q4,q5)):
  ∃q s,cs=#[.int .i64 q0,.int .i64 q1,.int .i64 q2,.int .i64 q3,.string q4,q]∧fp=([]++([]++([]++([]++([]++s)))))∧(Lit.int .i64 q0).wf=true∧(Lit.int .i64 q1).wf=true∧(Lit.int .i64 q2).wf=true∧(Lit.int .i64 q3).wf=true∧q4.size≤maxLen∧SlR s w q q5:=by
 generalize B:cs.toList=l at h;obtain⟨_,_,_,_,rfl,rfl,⟨rfl,rfl,D⟩,⟨_,_,_,_,rfl,rfl,⟨rfl,rfl,E⟩,⟨_,_,_,_,rfl,rfl,⟨rfl,rfl,H⟩,⟨_,_,_,_,rfl,rfl,⟨rfl,rfl,I⟩,⟨_,_,_,_,rfl,rfl,⟨rfl,rfl,J⟩,⟨q,rfl,K⟩⟩⟩⟩⟩⟩:=h;exact⟨_,_,Array.toList_inj.1 (by simpa using B),rfl,D,E,H,I,J,K⟩
theorem Lr{fp:List Nat}{w:World}{c:Array Value}{x:aT}(h:Rd.rd fp w c.toList x):
 ∃q0 q1 q2 q3 q4 q5 s q B,(q0,q1,q2,q3,q4,q5)=x∧c=#[.int .i64 q0,.int .i64 q1,.int .i64 q2,.int .i64 q3,.string q4,.slice s q5.length q]∧True∧(Lit.int .i64 q0).wf=true∧(Lit.int .i64 q1).wf=true∧(Lit.int .i64 q2).wf=true∧(Lit.int .i64 q3).wf=true∧q4.size≤maxLen∧SlR B w (.slice s q5.length q) q5∧q5.length≤q∧q5.length≤140737488351232:=by
 obtain⟨q0,q1,q2,q3,q4,q5⟩:=x;obtain⟨U,B,rfl,X,E,H,I,J,K,D⟩:=bA q0 q1 q2 q3 q4 q5 h;obtain⟨s,q,rfl,O,T,-⟩:=D.open;exact⟨_,_,_,_,_,_,_,_,_,rfl,rfl,⟨⟩,E,H,I,J,K,D,O,T⟩
theorem KZ{f:List Nat}{w u:World}{b o n m k:Nat}{xs:List (aT)}(h:SlR f w (.slice (some ⟨b,o,none⟩) n m) xs)(Z:k<xs.length)(g:Gr w u):
 ∃q0 q1 q2 q3 q4 q5 s q B D,Ky ((q0,q1,q2,q3,q4,q5)=xs[k])∧Ky (Rd.rd (α:=aT) D w [.int .i64 q0,.int .i64 q1,.int .i64 q2,.int .i64 q3,.string q4,.slice s q5.length q] (q0,q1,q2,q3,q4,q5))∧(Lit.int .i64 q0).wf=true∧(Lit.int .i64 q1).wf=true∧(Lit.int .i64 q2).wf=true∧(Lit.int .i64 q3).wf=true∧q4.size≤maxLen∧SlR B w (.slice s q5.length q) q5∧q5.length≤q∧q5.length≤140737488351232∧u.cell? ⟨b,o+k*6,none⟩=some (.int .i64 q0)∧u.cell? ⟨b,o+k*6+1,none⟩=some (.int .i64 q1)∧u.cell? ⟨b,o+k*6+2,none⟩=some (.int .i64 q2)∧u.cell? ⟨b,o+k*6+3,none⟩=some (.int .i64 q3)∧u.cell? ⟨b,o+k*6+4,none⟩=some (.string q4)∧u.cell? ⟨b,o+k*6+5,none⟩=some (.slice s q5.length q)∧b<u.heap.size:=by
 obtain⟨_,D,hc,E⟩:=h.el Z;obtain⟨q0,q1,q2,q3,q4,q5,s,q,B,H,rfl,-,I,J,K,O,T,U,X,Y⟩:=Lr E;have z:=g.keep (hc 0 _ rfl);exact⟨_,_,_,_,_,_,_,_,_,_,Kz H,Lt H E,I,J,K,O,T,U,X,Y,z,g.keep (hc 1 _ rfl),g.keep (hc 2 _ rfl),g.keep (hc 3 _ rfl),g.keep (hc 4 _ rfl),g.keep (hc 5 _ rfl),blk z⟩
theorem tF{w:World}(q0:Int)(q1:Int)(q2:Int)(q3:Int)(q4:ByteArray)(q5:List Int){h:Value}{q:List Nat}(s:(Lit.int .i64 q0).wf=true)(B:(Lit.int .i64 q1).wf=true)(D:(Lit.int .i64 q2).wf=true)(E:(Lit.int .i64 q3).wf=true)(H:q4.size≤maxLen)(I:SlR q w h q5):
  Rd.rd (α:=aT) (([]++([]++([]++([]++([]++q)))))) w [.int .i64 q0,.int .i64 q1,.int .i64 q2,.int .i64 q3,.string q4,h] (q0,q1,q2,q3,q4,q5):=⟨_,_,_,_,rfl,rfl,⟨rfl,rfl,s⟩,⟨_,_,_,_,rfl,rfl,⟨rfl,rfl,B⟩,⟨_,_,_,_,rfl,rfl,⟨rfl,rfl,D⟩,⟨_,_,_,_,rfl,rfl,⟨rfl,rfl,E⟩,⟨_,_,_,_,rfl,rfl,⟨rfl,rfl,H⟩,⟨_,rfl,I⟩⟩⟩⟩⟩⟩
theorem D5(fp:List Nat)(cs:Array Value)(x:aT)(left:Int)(w:World)(B:Rd.rd fp w cs.toList x)(h0:0≤left)(h1:left≤1048576):
  Qz 58 #[.agg cs,.int .i64 left] w (.int .i64 (less left (fT x))):=by
 obtain⟨q0,q1,q2,q3,q4,q5⟩:=x;obtain⟨H,D,rfl,-,I,J,K,O,E,h⟩:=bA q0 q1 q2 q3 q4 q5 B;unfold maxLen at E;obtain⟨T,U,rfl,X,Y,-⟩:=h.open;have q:fT (q0,q1,q2,q3,q4,q5)=(q4.size)+(q5.length):=by rfl
 have s:=Kz q;clear q B;delta Qz;go_in;go_wp2_with fail
 ·go_ret
  refine⟨aC ?_,gd⟩;have:=aH left (fT (q0,q1,q2,q3,q4,q5));have:=s.o;omega
 ·skip
  refine(FJ D _ _ _ _ (h.gr gd) (by omega) (by omega)).mono ?_;rintro e w5 ⟨rfl,x5,rfl⟩;have Z:=fD (left - ↑q4.size) (q5.length) (by omega);go_wp2_with fail
  ·go_ret
   refine⟨aC ?_,gd⟩;have:=aH left (fT (q0,q1,q2,q3,q4,q5));have:=s.o;have:=aH (left - ↑q4.size) (q5.length);omega
  ·skip
   go_ret;refine⟨aC ?_,gd⟩;have:=aH left (fT (q0,q1,q2,q3,q4,q5));have:=s.o;have:=aH (left - ↑q4.size) (q5.length);omega
theorem F7(q0:Int)(q1:Int)(q2:Int)(q3:Int)(q4:ByteArray)(q5:List Int)(h:Int)(q:Int)(s:Int)(B:Int)(D:ByteArray)(E:List Int)(H:q0=h)(I:q1=q)(J:q2=s)(K:q3=B)(O:q4=D)(T:q5=E):((q0,q1,q2,q3,q4,q5):aT)=(h,q,s,B,D,E):=by
 exact Prod.ext_iff.2 ⟨H,Prod.ext_iff.2 ⟨I,Prod.ext_iff.2 ⟨J,Prod.ext_iff.2 ⟨K,Prod.ext_iff.2 ⟨O,T⟩⟩⟩⟩⟩
theorem DU(fp fq:List Nat)(cs K:Array Value)(x y:aT)(w:World)(O:Rd.rd fp w cs.toList x)(T:Rd.rd fq w K.toList y):
  Qz 81 #[.agg cs,.agg K] w (.bool (decide (x=y))):=by
 obtain⟨q0,q1,q2,q3,q4,q5⟩:=x;obtain⟨s,B,D,E,H,q⟩:=y;obtain⟨ae,U,rfl,-,ah,ai,aj,au,ax,I⟩:=bA q0 q1 q2 q3 q4 q5 O;obtain⟨ay,X,rfl,-,aL,aN,aS,aV,aZ,J⟩:=bA s B D E H q T;obtain⟨bg,bq,rfl,-,-,-⟩:=I.open;obtain⟨bB,bD,rfl,-,-,-⟩:=J.open;clear O T;delta Qz;go_in;go_wp2_with fail
 ·have h:(q0 !=s)=true:=by assumption
  go_ret;exact⟨aa (decide_eq_false fun e=>int_ne h (congrArg (fun z:aT=>z.1) e)).symm,gd⟩
 ·have h:(q1 !=B)=true:=by assumption
  go_ret;exact⟨aa (decide_eq_false fun e=>int_ne h (congrArg (fun z:aT=>z.2.1) e)).symm,gd⟩
 ·have h:(q2 !=D)=true:=by assumption
  go_ret;exact⟨aa (decide_eq_false fun e=>int_ne h (congrArg (fun z:aT=>z.2.2.1) e)).symm,gd⟩
 ·have h:(q3 !=E)=true:=by assumption
  go_ret;exact⟨aa (decide_eq_false fun e=>int_ne h (congrArg (fun z:aT=>z.2.2.2.1) e)).symm,gd⟩
 ·have h:(!q4.toList==H.toList)=true:=by assumption
  go_ret;exact⟨aa (decide_eq_false fun e=>lg h (congrArg (fun z:aT=>z.2.2.2.2.1) e)).symm,gd⟩
 ·skip
  have Y:=Kz (int_eq (show(q0 !=s)=false by assumption));have Z:=Kz (int_eq (show(q1 !=B)=false by assumption));have e2:=Kz (int_eq (show(q2 !=D)=false by assumption));have e3:=Kz (int_eq (show(q3 !=E)=false by assumption));have e4:=Kz (str_eq (show(!q4.toList==H.toList)=false by assumption));refine(Ed U X _ _ q5 q _ (I.gr gd) (J.gr gd)).mono ?_;rintro e w5 ⟨rfl,x5,rfl⟩;go_wp2_with fail
  ·have h:(!decide (q5=q))=true:=by assumption
   go_ret;exact⟨aa (decide_eq_false fun e=>iy h (congrArg (fun z:aT=>z.2.2.2.2.2) e)).symm,gd⟩
  ·skip
   have e5:=Kz (iq (show(!decide (q5=q))=false by assumption));go_ret;exact⟨aa (decide_eq_true (F7 q0 q1 q2 q3 q4 q5 s B D E H q Y.o Z.o e2.o e3.o e4.o e5.o)).symm,gd⟩
theorem Eg(fp:List Nat)(cs:Array Value)(x:aT)(w:World)(B:Rd.rd fp w cs.toList x)(hl:fT x≤1048576):
  Calls Tryz.prog 68 #[.agg cs] w fun e w'=>∃D fq,e=.returned (.agg D)∧Rd.rd fq w' D.toList x∧aY w fq∧Gr w w':=by
 obtain⟨q0,q1,q2,q3,q4,q5,ae,ah,E,rfl,rfl,-,H,I,J,K,O,T,-,-⟩:=Lr B;have q:fT (q0,q1,q2,q3,q4,q5)=(q4.size)+(q5.length):=by rfl
 have Z:=Kz q;clear q B;go_in;go_wp2_with fail;refine(DI E _ _ _ (T.gr gd) (by have:=Z.o;omega)).mono ?_;rintro e w5 ⟨u5,g5,rfl,U,s,x5,rfl⟩;obtain⟨X,Y,rfl,-,-,-⟩:=U.open;go_wp2_with fail
 have h:aY w g5:=by
  exact(aY.of_le s (by simp<;>omega))
 exact bodyPost_ret (v:=.agg #[.int .i64 q0,.int .i64 q1,.int .i64 q2,.int .i64 q3,.string q4,.slice X q5.length Y]) (by simp[results,Tryz.results68,go_sem]) rfl
  ⟨_,_,rfl,tF q0 q1 q2 q3 q4 q5 H I J K O (SlR.moved U s gd (by simp)),h,gd⟩
def jG(xs:List aT):Nat:=wtL fT xs
theorem BN(fp:List Nat)(u:Value)(xs:List aT)(left:Int)(w:World)(hu:SlR fp w u xs)(Y:0≤left)(h1:left≤1048576):
  Qz 24 #[u,.int .i64 left] w (.int .i64 (less left (jG xs))):=by
 obtain⟨a,ca,rfl,g1,g2,J⟩:=hu.open
 by_cases E:left - xs.length<0
 ·have hle:less left (jG xs)= -1:=by unfold less jG wtL;rw[if_pos (by omega)]
  have Z:=Kz hle;clear hle;delta Qz;go_in
  go_wp2
  go_ret;exact⟨aC Z.o.symm,Gr.refl w⟩
 ·have D:less left xs.length=left - xs.length:=by unfold less;rw[if_neg E]
  have K:=Kz D;clear D;delta Qz;go_in
  go_wp2
  go_loopw [5,1] (fun H s1 wr=>∃(k:Nat) (m:Int),k≤xs.length∧0≤m∧m≤1048576∧Ky (m=less left (xs.length+((xs.take k).map fT).sum))∧Gr w wr∧H=.int .i64 k∧s1=.int .i64 m) (fun H _ _=>xs.length - (intOf H).toNat)
  case atStart=>exact⟨0,_,by omega,by omega,by omega,Kz (by simp[K.o]),Gr.refl w,rfl,rfl⟩
  case round=>
   obtain⟨k,m,hk,ae,ah,hm,⟨x,rfl⟩,rfl,rfl⟩:=hrel
   by_cases h:k<xs.length
   ·obtain⟨b,off,rfl,hb⟩:=J k h
    have q:=Kz (eZ fT xs k h);obtain⟨q0,q1,q2,q3,q4,q5,ai,aj,au,ax,O,T,ay,aL,aN,aS,aV,aZ,-,-,z0,z1,z2,z3,z4,z5,-⟩:=KZ hu h (Gr.refl _);have I:=Lb O T;have X:=fD m (fT xs[k]) (by omega);clear J
    go_wp2_with (go_at_call 58;refine(D5 _ _ xs[k] _ _ (Rd.gr I ((Gr.refl w).ext _)) (by omega) (by omega)).mono ?_;rintro e w1 ⟨rfl,y,rfl⟩)
    ·have B:less m (fT xs[k])<0:=by assumption
     go_ret;refine⟨aC ?_,gd⟩;have e:=hm.o;subst e;rw[fE,Nat.add_assoc,←q.o] at B;exact(jV B (Nat.add_le_add_left (gJ fT xs (k+1)) _) Y).symm
    ·have B:0≤less m (fT xs[k]):=by assumption
     refine⟨⟨k+1,_,by omega,B,by omega,Kz ?_,gd,by go_num,rfl⟩,by simp[intOf];omega⟩;rw[q.o,hm.o,fE,Nat.add_assoc]
   ·have U:k=xs.length:=by omega
    subst U;have s:=hm.o;rw[take_length] at s;have HM:=Kz s;clear s hm
    go_wp2
    go_ret;exact⟨aC HM.o,gd⟩
theorem BP(fp fq:List Nat)(u v:Value)(xs q:List aT)(w:World)(hu:SlR fp w u xs)(T:SlR fq w v q):
  Qz 35 #[u,v] w (.bool (decide (xs=q))):=by
 obtain⟨a,ca,rfl,h1,h2,U⟩:=hu.open;obtain⟨c,cc,rfl,g1,g2,X⟩:=T.open
 by_cases D:xs.length=q.length
 ·have I:=Kz D
  have Y:((xs.length:Int)!=(q.length:Int))=false:=by simp[D]
  clear D;delta Qz;go_in
  go_wp2
  go_loopw [5] (fun J wr=>∃k:Nat,k≤xs.length∧xs.take k=q.take k∧Gr w wr∧J=.int .i64 k) (fun J _=>xs.length - (intOf J).toNat)
  case atStart=>exact⟨0,by omega,rfl,Gr.refl w,rfl⟩
  case round=>
   obtain⟨k,hk,s,⟨x,rfl⟩,rfl⟩:=hrel
   by_cases H:k<xs.length
   ·have B:k<q.length:=by have:=I.o;omega
    obtain⟨b,off,rfl,hb⟩:=U k H;obtain⟨b',au,rfl,ax⟩:=X k B;obtain⟨q0,q1,q2,q3,q4,q5,ay,aL,aN,aS,Z,ae,aV,aZ,bg,bq,bB,bD,-,-,z0,z1,z2,z3,z4,z5,-⟩:=KZ hu H (Gr.refl _);have K:=Lb Z ae;obtain⟨p0,p1,p2,p3,p4,p5,bH,bK,bL,bN,ah,ai,bV,cK,cO,dz,dA,dC,-,-,dG,dL,dU,dW,eH,fe,-⟩:=KZ T B (Gr.refl _);have O:=Lb ah ai;have hT:=Kz s;clear U X s;go_wp2_with fail;refine wg ?_
    repeat(go_big_quiet_step ((go_at_call 81;refine aG (DU _ _ _ _ xs[k] q[k] _ (Rd.gr K ?_) (Rd.gr O ?_))<;>exact((Gr.refl w).ext _).ext _)))
    refine wq fun nx=>?_
    go_wp2
    ·have s:(!decide (xs[k]=q[k]))=true:=by assumption
     go_ret;have E:xs≠q:=fun e=>iy s (by subst e;rfl)
     exact⟨aa (decide_eq_false E).symm,gd⟩
    ·have s:(!decide (xs[k]=q[k]))=false:=by assumption
     have e2:=iq s;refine⟨⟨k+1,by omega,?_,gd,by go_num⟩,by simp[intOf];omega⟩;rw[List.take_succ_eq_append_getElem H,List.take_succ_eq_append_getElem B,hT.o,e2]
   ·have aj:k=xs.length:=by omega
    subst aj
    have e:xs=q:=by
     have h:=s;have h':=I.o;rw[take_length,h',take_length] at h;exact h
    have E:=Kz e;clear e s
    go_wp2
    go_ret;exact⟨aa (decide_eq_true E.o).symm,gd⟩
 ·have Y:((xs.length:Int)!=(q.length:Int))=true:=by simp;omega
  have e:xs≠q:=fun e=>D (by rw[e])
  have E:=Kz e;clear e D;delta Qz;go_in
  go_wp2
  go_ret;exact⟨aa (decide_eq_false E.o).symm,Gr.refl w⟩
theorem Tryz.GK:(Tryz.prog.info? 107).map (fun i=>(i.zero,i.size,i.bytes))=some (some (.agg #[.int .i64 0,.int .i64 0,.int .i64 0,.int .i64 0,.string ByteArray.empty,.slice none 0 0]),6,72):=by kernel_rfl
theorem Ce(fp:List Nat)(u:Value)(xs:List aT)(w:World)(hu:SlR fp w u xs)(hlen:jG xs≤1048576):
  Calls Tryz.prog 30 #[u] w fun e w'=>∃v fq,e=.returned v∧SlR fq w' v xs∧aY w fq∧Gr w w':=by
 obtain⟨a,ca,rfl,h1,h2,h3⟩:=hu.open;have aV:xs.length≤1048576:=le_trans (bT fT xs) hlen;obtain⟨i0,hi,U,X,Y⟩:=info_parts Tryz.GK;have B:=fun(W:World)=>run_make (P:=Tryz.prog) W 38 107 i0 (.agg #[.int .i64 0,.int .i64 0,.int .i64 0,.int .i64 0,.string ByteArray.empty,.slice none 0 0]) Tryz.underlying38 hi U .i64 .i64 xs.length xs.length (by omega) (by omega) (by rw[Y];omega) (by omega)
 rw[X] at B;clear hi U X Y;simp only[Int.toNat_natCast] at B;have D:=size_madeCells (Value.agg #[.int .i64 0,.int .i64 0,.int .i64 0,.int .i64 0,.string ByteArray.empty,.slice none 0 0]).cells (xs.length*6);generalize madeCells (Value.agg #[.int .i64 0,.int .i64 0,.int .i64 0,.int .i64 0,.string ByteArray.empty,.slice none 0 0]).cells (xs.length*6)=C0 at B D;have HS:=Kz D;have aj:=Kz hlen;clear D hlen;go_in
 go_wp2
 go_loopw [4] (fun s4 wr=>∃(k:Nat) (C:Array Value) (x:Ext) (fps:List (List Nat)),C.size=xs.length*6∧iF w w.heap.size wr C k fps xs∧wr=(w.alloc (.cells C 107)).ext x∧s4=.int .i64 k) (fun s4 _=>xs.length - (intOf s4).toNat)
 case atStart=>exact⟨0,C0,⟨#[],0⟩,[],HS.o,iF.start _ _ (le_refl _) (by simp),(lX _).symm,rfl⟩
 case round=>
  obtain⟨k,C,x,fps,hC,hp,rfl,rfl⟩:=hrel;have au:=Kz hC;have hk:=hp.le
  by_cases s:k<xs.length
  ·obtain⟨b,off,rfl,hb⟩:=h3 k s
   have Z:=dI fT xs s;obtain⟨q0,q1,q2,q3,q4,q5,aZ,bg,bq,bB,ax,ay,bD,bH,bK,bL,bN,bV,-,-,z0,z1,z2,z3,z4,z5,-⟩:=KZ hu s (Gr.refl _);have ai:=Lb ax ay;have y0:k*6<C.size:=by omega
   have y1:k*6+1<C.size:=by omega
   have y2:k*6+2<C.size:=by omega
   have y3:k*6+3<C.size:=by omega
   have y4:k*6+4<C.size:=by omega
   have y5:k*6+5<C.size:=by omega
   have cK:fT xs[k]≤1048576:=le_trans Z aj.o;have ae:k*6+6≤C.size:=by omega
   have HD:=Kz ae;clear hC h3 Z ae
   go_wp2_with (go_at_call 68;refine(Eg _ _ xs[k] _ (Rd.gr ai gd) (by omega)).mono ?_;rintro e w1 ⟨ds,fq,rfl,E,hf,y,rfl⟩;have ah:=E;generalize xs[k]=yr at ah;obtain⟨H,I,J,K,O,T⟩:=yr;obtain⟨cO,dz,rfl,aL,dA,dC,dG,dL,dU,aN⟩:=bA H I J K O T ah;obtain⟨h,q,rfl,-,-,-⟩:=aN.open;clear aL)
   rw[iV,←CX];refine⟨⟨k+1,setRow C (k*6) [.int .i64 H,.int .i64 I,.int .i64 J,.int .i64 K,.string O,.slice h T.length q],x.comp y,fps++[fq],?_,?_,rfl,by go_num⟩,by simp[intOf];omega⟩
   ·rw[setRow_size];exact au.o
   ·refine hp.lT s (C':=setRow C (k*6) [.int .i64 H,.int .i64 I,.int .i64 J,.int .i64 K,.string O,.slice h T.length q]) (cs:=[.int .i64 H,.int .i64 I,.int .i64 J,.int .i64 K,.string O,.slice h T.length q]) ?_ hf (fun j hj=>jW _ _ _ _ hj) (jS _ _ _ HD.o)
    exact E
  ·have aS:k=xs.length:=by omega
   subst aS;obtain⟨fq,E,hf⟩:=hp.done (iD _ x) (cap:=xs.length) (le_refl _) (by unfold bn;omega);have HF:=Kz E;clear E hC
   go_wp2
   go_ret;exact⟨_,fq,rfl,HF.o,hf,gd⟩
abbrev fU:=List aT
def gY(x:fU):Nat:=jG x
theorem bY{fp:List Nat}{w:World}{cs:Array Value}(q0:List aT)(h:Rd.rd (α:=fU) fp w cs.toList q0):
  ∃q s,cs=#[q]∧fp=s∧SlR s w q q0:=by
 generalize B:cs.toList=l at h;obtain⟨q,rfl,D⟩:=h;exact⟨_,_,Array.toList_inj.1 (by simpa using B),rfl,D⟩
theorem K8{fp:List Nat}{w:World}{c:Array Value}{x:fU}(h:Rd.rd fp w c.toList x):
 ∃q0 s q B,q0=x∧c=#[.slice s q0.length q]∧Ky (fp=B)∧SlR B w (.slice s q0.length q) q0∧q0.length≤q∧q0.length≤140737488351232:=by
 obtain⟨J,B,rfl,I,D⟩:=bY x h;obtain⟨s,q,rfl,E,H,-⟩:=D.open;exact⟨_,_,_,_,rfl,rfl,Kz I,D,E,H⟩
theorem rz{fp:List Nat}{w:World}{cs:Array Value}{x:fU}(h:Rd.rd (α:=fU) fp w cs.toList x):
  ∃q B s,cs=#[.slice q B s]:=by
 obtain⟨q0,rfl⟩:=nm (x);obtain⟨E,H,rfl,-,D⟩:=bY q0 h;obtain⟨q,s,rfl,-,-,-⟩:=D.open;exact⟨_,_,_,rfl⟩
theorem zU{w:World}(q0:List aT){h:Value}{q:List Nat}(s:SlR q w h q0):
  Rd.rd (α:=fU) (q) w [h] q0:=⟨_,rfl,s⟩
theorem qC(fp:List Nat)(cs:Array Value)(x:fU)(left:Int)(w:World)(s:Rd.rd fp w cs.toList x)(T:0≤left)(U:left≤1048576):
  Qz 6 #[.agg cs,.int .i64 left] w (.int .i64 (less left (gY x))):=by
 obtain⟨q0,rfl⟩:=nm (x);obtain⟨E,B,rfl,-,h⟩:=bY q0 s;obtain⟨H,I,rfl,J,K,-⟩:=h.open;have q:gY q0=(jG q0):=by rfl
 have D:=Kz q;clear q s;delta Qz;go_in;go_wp2_with fail;refine(BN B _ _ _ _ (h.gr gd) (by omega) (by omega)).mono ?_;rintro e w0 ⟨rfl,X,rfl⟩;have O:=fD (left) (jG q0) (by omega);go_wp2_with fail
 ·go_ret
  refine⟨aC ?_,gd⟩;have:=aH left (gY q0);have:=D.o;have:=aH (left) (jG q0);omega
 ·skip
  go_ret;refine⟨aC ?_,gd⟩;have:=aH left (gY q0);have:=D.o;have:=aH (left) (jG q0);omega
theorem Gs(q0:List aT)(h:List aT)(q:q0=h):(q0:fU)=h:=by
 exact q
theorem Dw(fp fq:List Nat)(cs B:Array Value)(x y:fU)(w:World)(D:Rd.rd fp w cs.toList x)(E:Rd.rd fq w B.toList y):
  Qz 13 #[.agg cs,.agg B] w (.bool (decide (x=y))):=by
 obtain⟨q0,rfl⟩:=nm (x);obtain⟨h,rfl⟩:=nm (y);obtain⟨O,H,rfl,-,q⟩:=bY q0 D;obtain⟨T,I,rfl,-,s⟩:=bY h E;obtain⟨U,X,rfl,-,-,-⟩:=q.open;obtain⟨Y,Z,rfl,-,-,-⟩:=s.open;clear D E;delta Qz;go_in;go_wp2_with fail;refine(BP H I _ _ q0 h _ (q.gr gd) (s.gr gd)).mono ?_;rintro e w0 ⟨rfl,x0,rfl⟩;go_wp2_with fail
 ·have J:(!decide (q0=h))=true:=by assumption
  go_ret;exact⟨aa (decide_eq_false fun e=>iy J (congrArg (fun z:fU=>z) e)).symm,gd⟩
 ·skip
  have K:=Kz (iq (show(!decide (q0=h))=false by assumption));go_ret;exact⟨aa (decide_eq_true (Gs q0 h K.o)).symm,gd⟩
theorem ni(fp:List Nat)(cs:Array Value)(x:fU)(w:World)(D:Rd.rd fp w cs.toList x)(Z:gY x≤1048576):
  Calls Tryz.prog 9 #[.agg cs] w fun e w'=>∃E fq,e=.returned (.agg E)∧Rd.rd fq w' E.toList x∧aY w fq∧Gr w w':=by
 obtain⟨q0,rfl⟩:=nm (x);obtain⟨U,H,rfl,-,q⟩:=bY q0 D;obtain⟨X,Y,rfl,-,-,-⟩:=q.open;have s:gY q0=(jG q0):=by rfl
 have O:=Kz s;clear s D;go_in;go_wp2_with fail;refine(Ce H _ _ _ (q.gr gd) (by have:=O.o;omega)).mono ?_;rintro e w0 ⟨u0,T,rfl,I,B,x0,rfl⟩;obtain⟨J,K,rfl,-,-,-⟩:=I.open;go_wp2_with fail
 have h:aY w T:=by
  exact(aY.of_le B (by simp<;>omega))
 exact bodyPost_ret (v:=.agg #[.slice J q0.length K]) (by simp[results,Tryz.results9,go_sem]) rfl
  ⟨_,_,rfl,zU q0 (SlR.moved I B gd (by simp)),h,gd⟩
def oM(α:Type)[Rd α]:Prop:=∀(fp:List Nat) (w:World) (cs:List Value) (x:α),Rd.rd fp w cs x→fp=[]
theorem nK:oM Int:=fun _ _ _ _ h=>h.1
theorem nI:oM ByteArray:=fun _ _ _ _ h=>h.1
theorem mU{α β:Type}[Rd α][Rd β](q:oM α)(s:oM β):oM (α×β):=fun _ _ _ _ h=>by
 obtain⟨E,c2,f1,f2,rfl,rfl,B,D⟩:=h;rw[q _ _ _ _ B,s _ _ _ _ D];rfl
theorem Els.flat{α:Type}[Rd α](B:oM α){w:World}{s:List (List Value)}{fps:List (List Nat)}{xs:List α}(h:Els w s fps xs):fps.flatten=[]:=by
 rw[List.flatten_eq_nil_iff];intro l D
 obtain⟨i,q,rfl⟩:=List.mem_iff_getElem.1 D;exact B _ _ _ _ (h.rd i (by rw[←h.fl];exact q) (by rw[h.cl,←h.fl];exact q) q)
theorem eT.flat{α:Type}[Rd α](s:oM α){w:World}{x:Value}{q:List (List Nat)}{B:List α}(h:eT w x q B):q.flatten=[]:=by
 rcases h with⟨_,rfl,_⟩|⟨_,_,_,_,_,D,_⟩
 ·rfl
 ·exact D.flat s
section
variable{P:Program}
theorem OY{α:Type}[Rd α](hF:oM α){w:World}{ops:Array Oper}{rest:List Oper}{o:Oper}{a:Act}{Q:Exit→Act→World→Prop}(J:o.guard=none)(s x:Operand)(t:TypeId)
  (E:o.op=.call {callee:=.builtin .append,args:=#[s,x],argTypes:=#[t,t]})
  (e:TypeId) (i:TypeInfo) (z:Value) (bytes:Nat) (ht:P.underlying t=some (.slice e)) (hi:P.info? e=some i) (hz:i.zero=some z)
  (hsize:i.size=Rd.n α) (K:i.bytes=bytes) (O:z.cells.size=Rd.n α)
  {g:Nat} (hs:a.eval s=.slice (some ⟨g,0,none⟩) 0 0) (hg:g=w.heap.size) {fp:List Nat} {H:Value} {q:List α} (hx:a.eval x=H) (hsrc:SlR fp w H q)
  (hlen:q.length≤1048576) (hbytes:q.length*bytes≤140737488355328)
  (h:∀b c fq y,SlR fq (w.ext y) (.slice (some ⟨b,0,none⟩) q.length c) q→aY w fq→wpList P ops Q rest (a.put o.dst (.slice (some ⟨b,0,none⟩) q.length c)) (w.ext y)):wpList P ops Q (o::rest) a (w.alloc (.cells #[] e)):=by
 have T:Gr w (w.alloc (.cells #[] e)):=gd;obtain⟨U,X,-,-⟩:=eT.qL (hsrc.gr T);have D:=X.flat hF;refine bP (α:=α) T J s x t E e i z bytes ht hi hz hsize K O _ [] [] hs (bE.kF e (le_refl _) hg) H U q hx X (fun b hb=>by rw[D];simp) (by simp only[List.length_nil,maxLen];omega) (by simpa using hbytes) ?_;intro v' w' I h2 B h4
 obtain⟨y,rfl⟩:=h4;simp only[List.nil_append] at I;obtain⟨fq,Y,Z⟩:=I.fresh (by unfold bn;omega) (by rw[D];exact aY.nil _)
 have hv:∃b c,v'=.slice (some ⟨b,0,none⟩) q.length c:=by
  obtain⟨⟨ae,E,hE⟩,ha⟩:=I;rcases E.2 with⟨rfl,h0⟩|⟨g,cap,cur,rfl,_⟩
  ·rcases B with B|B<;>simp[Value.ownBlock] at B
  ·exact⟨g,cap,rfl⟩
 obtain⟨b,c,rfl⟩:=hv;exact h b c fq y Y Z
end
theorem Tryz.kJ:(Tryz.prog.info? 3).map (fun i=>(i.zero,i.size,i.bytes))=some (some (.int .i64 0),1,8):=by kernel_rfl
theorem O7(fp:List Nat)(u:Value)(xs:List Int)(w:World)(hu:SlR fp w u xs)(hlen:xs.length≤1048576):
  Calls Tryz.prog 168 #[u] w fun e w'=>∃v fq,e=.returned v∧SlR fq w' v xs∧aY w fq∧Gr w w':=by
 obtain⟨i0,B⟩:=info_parts Tryz.kJ;have h:=Kz B;clear B;have D:=Kz hu;obtain⟨a,c,rfl,J,K,q⟩:=hu.open;have O:=fun(W:World) (a:Option Addr) (n c:Nat)=>Lib.run_eql_slice_nil (P:=Tryz.prog) W 29 3 a n c 0 0 Tryz.underlying29
 clear hu
 cases a with
 |none=>
  have E:xs=[]:=by
   cases xs with
   |nil=>rfl
   |cons y T=>obtain⟨b,off,H,_⟩:=q 0 (by simp);cases H
  subst E;clear q;go_in
  go_wp2
  go_ret;exact⟨_,[],rfl,SlR.nil _,aY.nil _,gd⟩
 |some U=>
  clear q;go_in
  go_wp2_with (first|(at_builtin;refine OY nK rfl _ _ 29 rfl 3 i0 (.int .i64 0) 8 Tryz.underlying29 h.o.1 h.o.2.1 h.o.2.2.1 h.o.2.2.2 rfl (by rfl) (by simp) (by rfl) D.o hlen (by omega) ?_;intro X c2 fq y s I;replace s:=Kz s))
  go_ret;exact⟨_,fq,rfl,s.o,I,gd⟩
variable{d:Nat}
structure TestNode(w:World)(fid:Nat)(cap:Array Value)(p:aT→Bool)(xs:List aT):Prop where
 fn:∀args W,(callFunc fid args).run Tryz.prog W=.ok (.enter fid args) W
 calls:∀y∈xs,∀(x:Ext) (fp:List Nat) (cs:Array Value),Rd.rd fp (w.ext x) cs.toList y→Calls Tryz.prog fid (#[.agg cs]++cap) (w.ext x) fun e w'=>e=.returned (.bool (p y))∧Gr (w.ext x) w'
theorem l9(fp:List Nat)(u:Value)(xs:List aT)(B:Nat)(cap:Array Value)(p:aT→Bool)(w:World)(hu:SlR fp w u xs)(Y:TestNode w B cap p xs):
  Qz 177 #[u,.func (.func B) #[] cap] w (.int .i64 (idxOf p xs)):=by
 obtain⟨a,ca,rfl,h1,h2,O⟩:=hu.open;obtain⟨ae,q⟩:=Y;have Z:=Kz q;clear q;delta Qz;go_in
 go_wp2
 go_loopw [8,5] (fun D s5 wr=>∃k:Nat,k≤xs.length∧(∀j (h:j<xs.length),j<k→p xs[j]=false)∧Gr w wr∧D=.int .i64 k) (fun D s5 _=>xs.length - (intOf D).toNat)
 case atStart=>exact⟨0,by omega,by omega,Gr.refl w,rfl⟩
 case round=>
  obtain⟨k,hk,T,⟨x,rfl⟩,rfl⟩:=hrel;have E:=Kz T;clear T
  by_cases s:k<xs.length
  ·obtain⟨b,off,rfl,hb⟩:=O k s
   obtain⟨q0,q1,q2,q3,q4,q5,ah,ai,aj,au,U,X,-,-,-,-,-,ax,-,-,z0,z1,z2,z3,z4,z5,-⟩:=KZ hu s (Gr.refl _);have H:=Lb U X;clear O;go_wp2_with fail;refine(Z.o _ (List.getElem_mem s) _ _ _ (Rd.gr H gd)).mono ?_;rintro e w2 ⟨rfl,x2,rfl⟩
   go_wp2
   ·have I:p xs[k]=true:=by assumption
    go_ret;exact⟨aC (iH s I E.o).symm,gd⟩
   ·have I:p xs[k]=false:=by assumption
    refine⟨⟨k+1,by omega,fun j J ay=>?_,gd,by go_num⟩,by simp[intOf];omega⟩
    by_cases K:j<k
    ·exact E.o j J K
    ·obtain rfl:j=k:=by omega
     exact I
  ·go_wp2
   go_ret;exact⟨aC (gu fun j J=>E.o j J (by omega)).symm,gd⟩
theorem om(fp:List Nat)(u:Value)(xs:List aT)(h:Nat)(cap:Array Value)(p:aT→Bool)(w:World)(hu:SlR fp w u xs)(q:TestNode w h cap p xs):
  Qz 160 #[u,.func (.func h) #[] cap] w (.bool (xs.any p)):=by
 delta Qz;go_in
 go_wp2_with (go_at_call 177;refine(l9 fp _ _ _ _ _ _ hu q).mono ?_;rintro e w1 ⟨rfl,s⟩)
 go_ret;refine⟨aa ?_,by assumption⟩;rw[Bool.eq_iff_iff,decide_eq_true_iff];exact iW
theorem Wr.new{fp fq:List Nat}{a c d:World}(h:Wr fp a c)(k:Wr fq c d)(s:∀x∈fq,a.heap.size≤x):Wr fp a d:=
 ⟨k.os.trans h.os,k.tape.trans h.tape,k.output.trans h.output,le_trans h.size k.size,le_trans h.drawn k.drawn,
  fun x q hm=>(k.block x (Nat.lt_of_lt_of_le q h.size) (fun e=>by have:=s x e;omega)).trans (h.block x q hm)⟩
def _root_.Go.World.first(w:World)(n:Nat):World:={w with heap:=w.heap.extract 0 n}
theorem Wr.Jp{fp fq:List Nat}{a c d:World}(h:Wr fp a c)(k:Wr fq c d)(s:∀x∈fq,x∈fp∨a.heap.size≤x):Wr fp a d:=
 ⟨k.os.trans h.os,k.tape.trans h.tape,k.output.trans h.output,le_trans h.size k.size,le_trans h.drawn k.drawn,
  fun x q hm=>(k.block x (Nat.lt_of_lt_of_le q h.size) (fun e=>(s x e).elim (fun h=>hm h) (fun h=>by omega))).trans (h.block x q hm)⟩
end Go.Proofs.YtdhighcpmcdmmaaGreat
