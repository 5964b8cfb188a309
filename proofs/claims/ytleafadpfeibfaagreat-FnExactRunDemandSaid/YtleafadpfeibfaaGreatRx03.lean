/- Contracts and laws towards ReadsOf, part 11 of 54. No condition. -/
import Derived.Test.YtleafadpfeibfaaGreatRx02
import Derived.Laws.EntriesVeiled
set_option maxHeartbeats 32000000
set_option maxRecDepth 10000
set_option linter.unusedVariables false
set_option linter.unusedSimpArgs false
namespace Go.Proofs.YtleafadpfeibfaaGreat
open Go.RowKit
open _root_.List (take_length)
abbrev aT:=Int×Int×Int×Int×ByteArray×List Int
def fT(x:aT):Nat:=x.2.2.2.2.1.size+x.2.2.2.2.2.length
instance decNode:DecidableEq aT:=@instDecidableEqProd _ _ _ (@instDecidableEqProd _ _ _ (@instDecidableEqProd _ _ _ (@instDecidableEqProd _ _ _ (@instDecidableEqProd _ _ _ (inferInstance)))))
theorem bA{fp:List Nat}{w:World}{cs:Array Value}(q0:Int)(q1:Int)(q2:Int)(q3:Int)(q4:ByteArray)(q5:List Int)(h:Rd.rd (α:=aT) fp w cs.toList (q0,q1,q2,q3,q4,q5)):
  ∃q B,cs=#[.int .i64 q0,.int .i64 q1,.int .i64 q2,.int .i64 q3,.string q4,q]∧fp=([]++([]++([]++([]++([]++B)))))∧(Lit.int .i64 q0).wf=true∧(Lit.int .i64 q1).wf=true∧(Lit.int .i64 q2).wf=true∧(Lit.int .i64 q3).wf=true∧q4.size≤maxLen∧SlR B w q q5:=by
 generalize D:cs.toList=l at h;obtain⟨_,_,_,_,rfl,rfl,⟨rfl,rfl,I⟩,⟨_,_,_,_,rfl,rfl,⟨rfl,rfl,J⟩,⟨_,_,_,_,rfl,rfl,⟨rfl,rfl,K⟩,⟨_,_,_,_,rfl,rfl,⟨rfl,rfl,O⟩,⟨_,_,_,_,rfl,rfl,⟨rfl,rfl,T⟩,⟨q,rfl,U⟩⟩⟩⟩⟩⟩:=h;exact⟨_,_,Array.toList_inj.1 (by simpa using D),rfl,I,J,K,O,T,U⟩
theorem Lr{fp:List Nat}{w:World}{c:Array Value}{x:aT}(h:Rd.rd fp w c.toList x):
 ∃q0 q1 q2 q3 q4 q5 B q D,(q0,q1,q2,q3,q4,q5)=x∧c=#[.int .i64 q0,.int .i64 q1,.int .i64 q2,.int .i64 q3,.string q4,.slice B q5.length q]∧True∧(Lit.int .i64 q0).wf=true∧(Lit.int .i64 q1).wf=true∧(Lit.int .i64 q2).wf=true∧(Lit.int .i64 q3).wf=true∧q4.size≤maxLen∧SlR D w (.slice B q5.length q) q5∧q5.length≤q∧q5.length≤140737488351232:=by
 obtain⟨q0,q1,q2,q3,q4,q5⟩:=x;obtain⟨Y,D,rfl,Z,J,K,O,T,U,I⟩:=bA q0 q1 q2 q3 q4 q5 h;obtain⟨B,q,rfl,V,X,-⟩:=I.open;exact⟨_,_,_,_,_,_,_,_,_,rfl,rfl,⟨⟩,J,K,O,T,U,I,V,X⟩
theorem KZ{f:List Nat}{w u:World}{b o n m k:Nat}{xs:List (aT)}(h:SlR f w (.slice (some ⟨b,o,none⟩) n m) xs)(hl:k<xs.length)(g:Gr w u):
 ∃q0 q1 q2 q3 q4 q5 B q D I,Ky ((q0,q1,q2,q3,q4,q5)=xs[k])∧Ky (Rd.rd (α:=aT) I w [.int .i64 q0,.int .i64 q1,.int .i64 q2,.int .i64 q3,.string q4,.slice B q5.length q] (q0,q1,q2,q3,q4,q5))∧(Lit.int .i64 q0).wf=true∧(Lit.int .i64 q1).wf=true∧(Lit.int .i64 q2).wf=true∧(Lit.int .i64 q3).wf=true∧q4.size≤maxLen∧SlR D w (.slice B q5.length q) q5∧q5.length≤q∧q5.length≤140737488351232∧u.cell? ⟨b,o+k*6,none⟩=some (.int .i64 q0)∧u.cell? ⟨b,o+k*6+1,none⟩=some (.int .i64 q1)∧u.cell? ⟨b,o+k*6+2,none⟩=some (.int .i64 q2)∧u.cell? ⟨b,o+k*6+3,none⟩=some (.int .i64 q3)∧u.cell? ⟨b,o+k*6+4,none⟩=some (.string q4)∧u.cell? ⟨b,o+k*6+5,none⟩=some (.slice B q5.length q)∧b<u.heap.size:=by
 obtain⟨_,I,hc,hr⟩:=h.el hl;obtain⟨q0,q1,q2,q3,q4,q5,B,q,D,J,rfl,-,K,O,T,U,V,X,Y,Z⟩:=Lr hr;have z:=g.keep (hc 0 _ rfl);exact⟨_,_,_,_,_,_,_,_,_,_,Kz J,Lt J hr,K,O,T,U,V,X,Y,Z,z,g.keep (hc 1 _ rfl),g.keep (hc 2 _ rfl),g.keep (hc 3 _ rfl),g.keep (hc 4 _ rfl),g.keep (hc 5 _ rfl),blk z⟩
theorem tF{w:World}(q0:Int)(q1:Int)(q2:Int)(q3:Int)(q4:ByteArray)(q5:List Int){h:Value}{q:List Nat}(B:(Lit.int .i64 q0).wf=true)(D:(Lit.int .i64 q1).wf=true)(I:(Lit.int .i64 q2).wf=true)(J:(Lit.int .i64 q3).wf=true)(K:q4.size≤maxLen)(O:SlR q w h q5):
  Rd.rd (α:=aT) (([]++([]++([]++([]++([]++q)))))) w [.int .i64 q0,.int .i64 q1,.int .i64 q2,.int .i64 q3,.string q4,h] (q0,q1,q2,q3,q4,q5):=⟨_,_,_,_,rfl,rfl,⟨rfl,rfl,B⟩,⟨_,_,_,_,rfl,rfl,⟨rfl,rfl,D⟩,⟨_,_,_,_,rfl,rfl,⟨rfl,rfl,I⟩,⟨_,_,_,_,rfl,rfl,⟨rfl,rfl,J⟩,⟨_,_,_,_,rfl,rfl,⟨rfl,rfl,K⟩,⟨_,rfl,O⟩⟩⟩⟩⟩⟩
theorem D5(fp:List Nat)(cs:Array Value)(x:aT)(left:Int)(w:World)(D:Rd.rd fp w cs.toList x)(h0:0≤left)(h1:left≤1048576):
  Qz 65 #[.agg cs,.int .i64 left] w (.int .i64 (less left (fT x))):=by
 obtain⟨q0,q1,q2,q3,q4,q5⟩:=x;obtain⟨K,I,rfl,-,O,T,U,V,J,h⟩:=bA q0 q1 q2 q3 q4 q5 D;unfold maxLen at J;obtain⟨X,Y,rfl,Z,ae,-⟩:=h.open;have q:fT (q0,q1,q2,q3,q4,q5)=(q4.size)+(q5.length):=by rfl
 have B:=Kz q;clear q D;delta Qz;go_in;go_wp2_with fail
 ·go_ret
  refine⟨aC ?_,gd⟩;have:=aH left (fT (q0,q1,q2,q3,q4,q5));have:=B.o;omega
 ·skip
  refine(FJ I _ _ _ _ (h.gr gd) (by omega) (by omega)).mono ?_;rintro e w5 ⟨rfl,x5,rfl⟩;have ah:=fD (left - ↑q4.size) (q5.length) (by omega);go_wp2_with fail
  ·go_ret
   refine⟨aC ?_,gd⟩;have:=aH left (fT (q0,q1,q2,q3,q4,q5));have:=B.o;have:=aH (left - ↑q4.size) (q5.length);omega
  ·skip
   go_ret;refine⟨aC ?_,gd⟩;have:=aH left (fT (q0,q1,q2,q3,q4,q5));have:=B.o;have:=aH (left - ↑q4.size) (q5.length);omega
theorem F7(q0:Int)(q1:Int)(q2:Int)(q3:Int)(q4:ByteArray)(q5:List Int)(h:Int)(q:Int)(B:Int)(D:Int)(I:ByteArray)(J:List Int)(K:q0=h)(O:q1=q)(T:q2=B)(U:q3=D)(V:q4=I)(X:q5=J):((q0,q1,q2,q3,q4,q5):aT)=(h,q,B,D,I,J):=by
 exact Prod.ext_iff.2 ⟨K,Prod.ext_iff.2 ⟨O,Prod.ext_iff.2 ⟨T,Prod.ext_iff.2 ⟨U,Prod.ext_iff.2 ⟨V,X⟩⟩⟩⟩⟩
theorem DU(fp fq:List Nat)(cs T:Array Value)(x y:aT)(w:World)(U:Rd.rd fp w cs.toList x)(V:Rd.rd fq w T.toList y):
  Qz 80 #[.agg cs,.agg T] w (.bool (decide (x=y))):=by
 obtain⟨q0,q1,q2,q3,q4,q5⟩:=x;obtain⟨q,B,D,I,J,h⟩:=y;obtain⟨ae,X,rfl,-,ah,ai,aj,ak,au,K⟩:=bA q0 q1 q2 q3 q4 q5 U;obtain⟨ax,Y,rfl,-,ay,aZ,bg,bq,bB,O⟩:=bA q B D I J h V;obtain⟨bH,bL,rfl,-,-,-⟩:=K.open;obtain⟨bR,bX,rfl,-,-,-⟩:=O.open;clear U V;delta Qz;go_in;go_wp2_with fail
 ·have ht:(q0 !=q)=true:=by assumption
  go_ret;exact⟨aa (decide_eq_false fun e=>int_ne ht (congrArg (fun z:aT=>z.1) e)).symm,gd⟩
 ·have ht:(q1 !=B)=true:=by assumption
  go_ret;exact⟨aa (decide_eq_false fun e=>int_ne ht (congrArg (fun z:aT=>z.2.1) e)).symm,gd⟩
 ·have ht:(q2 !=D)=true:=by assumption
  go_ret;exact⟨aa (decide_eq_false fun e=>int_ne ht (congrArg (fun z:aT=>z.2.2.1) e)).symm,gd⟩
 ·have ht:(q3 !=I)=true:=by assumption
  go_ret;exact⟨aa (decide_eq_false fun e=>int_ne ht (congrArg (fun z:aT=>z.2.2.2.1) e)).symm,gd⟩
 ·have ht:(!q4.toList==J.toList)=true:=by assumption
  go_ret;exact⟨aa (decide_eq_false fun e=>lg ht (congrArg (fun z:aT=>z.2.2.2.2.1) e)).symm,gd⟩
 ·skip
  have Z:=Kz (int_eq (show(q0 !=q)=false by assumption));have e1:=Kz (int_eq (show(q1 !=B)=false by assumption));have e2:=Kz (int_eq (show(q2 !=D)=false by assumption));have e3:=Kz (int_eq (show(q3 !=I)=false by assumption));have e4:=Kz (str_eq (show(!q4.toList==J.toList)=false by assumption));refine(Ed X Y _ _ q5 h _ (K.gr gd) (O.gr gd)).mono ?_;rintro e w5 ⟨rfl,x5,rfl⟩;go_wp2_with fail
  ·have ht:(!decide (q5=h))=true:=by assumption
   go_ret;exact⟨aa (decide_eq_false fun e=>iy ht (congrArg (fun z:aT=>z.2.2.2.2.2) e)).symm,gd⟩
  ·skip
   have e5:=Kz (iq (show(!decide (q5=h))=false by assumption));go_ret;exact⟨aa (decide_eq_true (F7 q0 q1 q2 q3 q4 q5 q B D I J h Z.o e1.o e2.o e3.o e4.o e5.o)).symm,gd⟩
theorem Eg(fp:List Nat)(cs:Array Value)(x:aT)(w:World)(D:Rd.rd fp w cs.toList x)(hl:fT x≤1048576):
  Calls Tryz.prog 73 #[.agg cs] w fun e w'=>∃I fq,e=.returned (.agg I)∧Rd.rd fq w' I.toList x∧aY w fq∧Gr w w':=by
 obtain⟨q0,q1,q2,q3,q4,q5,ah,ai,J,rfl,rfl,-,K,O,T,U,V,X,-,-⟩:=Lr D;have q:fT (q0,q1,q2,q3,q4,q5)=(q4.size)+(q5.length):=by rfl
 have HW:=Kz q;clear q D;go_in;go_wp2_with fail;refine(DI J _ _ _ (X.gr gd) (by have:=HW.o;omega)).mono ?_;rintro e w5 ⟨u5,g5,rfl,Y,B,x5,rfl⟩;obtain⟨Z,ae,rfl,-,-,-⟩:=Y.open;go_wp2_with fail
 have h:aY w g5:=by
  exact(aY.of_le B (by simp<;>omega))
 exact bodyPost_ret (v:=.agg #[.int .i64 q0,.int .i64 q1,.int .i64 q2,.int .i64 q3,.string q4,.slice Z q5.length ae]) (by simp[results,Tryz.results73,go_sem]) rfl
  ⟨_,_,rfl,tF q0 q1 q2 q3 q4 q5 K O T U V (SlR.moved Y B gd (by simp)),h,gd⟩
def jG(xs:List aT):Nat:=wtL fT xs
theorem BN(fp:List Nat)(u:Value)(xs:List aT)(left:Int)(w:World)(hu:SlR fp w u xs)(Z:0≤left)(h1:left≤1048576):
  Qz 35 #[u,.int .i64 left] w (.int .i64 (less left (jG xs))):=by
 obtain⟨a,ca,rfl,g1,g2,g3⟩:=hu.open
 by_cases J:left - xs.length<0
 ·have hle:less left (jG xs)= -1:=by unfold less jG wtL;rw[if_pos (by omega)]
  have HL:=Kz hle;clear hle;delta Qz;go_in
  go_wp2
  go_ret;exact⟨aC HL.o.symm,Gr.refl w⟩
 ·have I:less left xs.length=left - xs.length:=by unfold less;rw[if_neg J]
  have T:=Kz I;clear I;delta Qz;go_in
  go_wp2
  go_loopw [5,1] (fun K s1 wr=>∃(k:Nat) (m:Int),k≤xs.length∧0≤m∧m≤1048576∧Ky (m=less left (xs.length+((xs.take k).map fT).sum))∧Gr w wr∧K=.int .i64 k∧s1=.int .i64 m) (fun K _ _=>xs.length - (intOf K).toNat)
  case atStart=>exact⟨0,_,by omega,by omega,by omega,Kz (by simp[T.o]),Gr.refl w,rfl,rfl⟩
  case round=>
   obtain⟨k,m,hk,ae,ah,hm,⟨x,rfl⟩,rfl,rfl⟩:=hrel
   by_cases h:k<xs.length
   ·obtain⟨b,off,rfl,hb⟩:=g3 k h
    have q:=Kz (eZ fT xs k h);obtain⟨q0,q1,q2,q3,q4,q5,ai,aj,ak,au,U,V,ax,ay,aZ,bg,bq,bB,-,-,z0,z1,z2,z3,z4,z5,-⟩:=KZ hu h (Gr.refl _);have O:=Lb U V;have Y:=fD m (fT xs[k]) (by omega);clear g3
    go_wp2_with (go_at_call 65;refine(D5 _ _ xs[k] _ _ (Rd.gr O ((Gr.refl w).ext _)) (by omega) (by omega)).mono ?_;rintro e w1 ⟨rfl,y,rfl⟩)
    ·have D:less m (fT xs[k])<0:=by assumption
     go_ret;refine⟨aC ?_,gd⟩;have e:=hm.o;subst e;rw[fE,Nat.add_assoc,←q.o] at D;exact(jV D (Nat.add_le_add_left (gJ fT xs (k+1)) _) Z).symm
    ·have D:0≤less m (fT xs[k]):=by assumption
     refine⟨⟨k+1,_,by omega,D,by omega,Kz ?_,gd,by go_num,rfl⟩,by simp[intOf];omega⟩;rw[q.o,hm.o,fE,Nat.add_assoc]
   ·have X:k=xs.length:=by omega
    subst X;have B:=hm.o;rw[take_length] at B;have HM:=Kz B;clear B hm
    go_wp2
    go_ret;exact⟨aC HM.o,gd⟩
theorem BP(fp fq:List Nat)(u v:Value)(xs q:List aT)(w:World)(hu:SlR fp w u xs)(hv:SlR fq w v q):
  Qz 48 #[u,v] w (.bool (decide (xs=q))):=by
 obtain⟨a,ca,rfl,h1,h2,U⟩:=hu.open;obtain⟨c,cc,rfl,g1,g2,g3⟩:=hv.open
 by_cases D:xs.length=q.length
 ·have J:=Kz D
  have V:((xs.length:Int)!=(q.length:Int))=false:=by simp[D]
  clear D;delta Qz;go_in
  go_wp2
  go_loopw [5] (fun K wr=>∃k:Nat,k≤xs.length∧xs.take k=q.take k∧Gr w wr∧K=.int .i64 k) (fun K _=>xs.length - (intOf K).toNat)
  case atStart=>exact⟨0,by omega,rfl,Gr.refl w,rfl⟩
  case round=>
   obtain⟨k,hk,ht,⟨x,rfl⟩,rfl⟩:=hrel
   by_cases I:k<xs.length
   ·have B:k<q.length:=by have:=J.o;omega
    obtain⟨b,off,rfl,hb⟩:=U k I;obtain⟨b',ai,rfl,aj⟩:=g3 k B;obtain⟨q0,q1,q2,q3,q4,q5,ak,au,ax,ay,X,Y,aZ,bg,bq,bB,bH,bL,-,-,z0,z1,z2,z3,z4,z5,-⟩:=KZ hu I (Gr.refl _);have O:=Lb X Y;obtain⟨p0,p1,p2,p3,p4,p5,bR,bX,cB,cK,Z,ae,cO,dB,dS,dV,fe,fu,-,-,gB,gD,gF,gT,gV,gX,-⟩:=KZ hv B (Gr.refl _);have T:=Lb Z ae;have hT:=Kz ht;clear U g3 ht;go_wp2_with fail;refine wg ?_
    repeat(go_big_quiet_step ((go_at_call 80;refine aG (DU _ _ _ _ xs[k] q[k] _ (Rd.gr O ?_) (Rd.gr T ?_))<;>exact((Gr.refl w).ext _).ext _)))
    refine wq fun nx=>?_
    go_wp2
    ·have ht:(!decide (xs[k]=q[k]))=true:=by assumption
     go_ret;have E:xs≠q:=fun e=>iy ht (by subst e;rfl)
     exact⟨aa (decide_eq_false E).symm,gd⟩
    ·have ht:(!decide (xs[k]=q[k]))=false:=by assumption
     have e2:=iq ht;refine⟨⟨k+1,by omega,?_,gd,by go_num⟩,by simp[intOf];omega⟩;rw[List.take_succ_eq_append_getElem I,List.take_succ_eq_append_getElem B,hT.o,e2]
   ·have ah:k=xs.length:=by omega
    subst ah
    have e:xs=q:=by
     have h:=ht;have h':=J.o;rw[take_length,h',take_length] at h;exact h
    have E:=Kz e;clear e ht
    go_wp2
    go_ret;exact⟨aa (decide_eq_true E.o).symm,gd⟩
 ·have V:((xs.length:Int)!=(q.length:Int))=true:=by simp;omega
  have e:xs≠q:=fun e=>D (by rw[e])
  have E:=Kz e;clear e D;delta Qz;go_in
  go_wp2
  go_ret;exact⟨aa (decide_eq_false E.o).symm,Gr.refl w⟩
theorem Tryz.GK:(Tryz.prog.info? 130).map (fun i=>(i.zero,i.size,i.bytes))=some (some (.agg #[.int .i64 0,.int .i64 0,.int .i64 0,.int .i64 0,.string ByteArray.empty,.slice none 0 0]),6,72):=by kernel_rfl
theorem Ce(fp:List Nat)(u:Value)(xs:List aT)(w:World)(hu:SlR fp w u xs)(hlen:jG xs≤1048576):
  Calls Tryz.prog 41 #[u] w fun e w'=>∃v fq,e=.returned v∧SlR fq w' v xs∧aY w fq∧Gr w w':=by
 obtain⟨a,ca,rfl,h1,h2,h3⟩:=hu.open;have bq:xs.length≤1048576:=Nat.le_trans (bT fT xs) hlen;obtain⟨i0,hi,X,Y,Z⟩:=info_parts Tryz.GK;have D:=fun(W:World)=>run_make (P:=Tryz.prog) W 41 130 i0 (.agg #[.int .i64 0,.int .i64 0,.int .i64 0,.int .i64 0,.string ByteArray.empty,.slice none 0 0]) Tryz.underlying41 hi X .i64 .i64 xs.length xs.length (by omega) (by omega) (by rw[Z];omega) (by omega)
 rw[Y] at D;clear hi X Y Z;simp only[Int.toNat_natCast] at D;have I:=size_madeCells (Value.agg #[.int .i64 0,.int .i64 0,.int .i64 0,.int .i64 0,.string ByteArray.empty,.slice none 0 0]).cells (xs.length*6);generalize madeCells (Value.agg #[.int .i64 0,.int .i64 0,.int .i64 0,.int .i64 0,.string ByteArray.empty,.slice none 0 0]).cells (xs.length*6)=C0 at D I;have HS:=Kz I;have ak:=Kz hlen;clear I hlen;go_in
 go_wp2
 go_loopw [4] (fun s4 wr=>∃(k:Nat) (C:Array Value) (x:Ext) (fps:List (List Nat)),C.size=xs.length*6∧iF w w.heap.size wr C k fps xs∧wr=(w.alloc (.cells C 130)).ext x∧s4=.int .i64 k) (fun s4 _=>xs.length - (intOf s4).toNat)
 case atStart=>exact⟨0,C0,⟨#[],0⟩,[],HS.o,iF.start _ _ (Nat.le_refl _) (by simp),(lX _).symm,rfl⟩
 case round=>
  obtain⟨k,C,x,fps,hC,hp,rfl,rfl⟩:=hrel;have au:=Kz hC;have hk:=hp.le
  by_cases B:k<xs.length
  ·obtain⟨b,off,rfl,hb⟩:=h3 k B
   have ae:=dI fT xs B;obtain⟨q0,q1,q2,q3,q4,q5,bB,bH,bL,bR,ax,ay,bX,cB,cK,cO,dB,dS,-,-,z0,z1,z2,z3,z4,z5,-⟩:=KZ hu B (Gr.refl _);have aj:=Lb ax ay;have y0:k*6<C.size:=by omega
   have y1:k*6+1<C.size:=by omega
   have y2:k*6+2<C.size:=by omega
   have y3:k*6+3<C.size:=by omega
   have y4:k*6+4<C.size:=by omega
   have y5:k*6+5<C.size:=by omega
   have dV:fT xs[k]≤1048576:=Nat.le_trans ae ak.o;have ah:k*6+6≤C.size:=by omega
   have HD:=Kz ah;clear hC h3 ae ah
   go_wp2_with (go_at_call 73;refine(Eg _ _ xs[k] _ (Rd.gr aj gd) (by omega)).mono ?_;rintro e w1 ⟨ds,fq,rfl,hs,hf,y,rfl⟩;have ai:=hs;generalize xs[k]=yr at ai;obtain⟨J,K,O,T,U,V⟩:=yr;obtain⟨fe,fu,rfl,-,gB,gD,gF,gT,gV,aZ⟩:=bA J K O T U V ai;obtain⟨h,q,rfl,-,-,-⟩:=aZ.open)
   rw[iV,←CX];refine⟨⟨k+1,setRow C (k*6) [.int .i64 J,.int .i64 K,.int .i64 O,.int .i64 T,.string U,.slice h V.length q],x.comp y,fps++[fq],?_,?_,rfl,by go_num⟩,by simp[intOf];omega⟩
   ·rw[setRow_size];exact au.o
   ·refine hp.lT B (C':=setRow C (k*6) [.int .i64 J,.int .i64 K,.int .i64 O,.int .i64 T,.string U,.slice h V.length q]) (cs:=[.int .i64 J,.int .i64 K,.int .i64 O,.int .i64 T,.string U,.slice h V.length q]) ?_ hf (fun j hj=>jW _ _ _ _ hj) (jS _ _ _ HD.o)
    exact hs
  ·have bg:k=xs.length:=by omega
   subst bg;obtain⟨fq,hs,hf⟩:=hp.done (iD _ x) (cap:=xs.length) (Nat.le_refl _) (by unfold bn;omega);have HF:=Kz hs;clear hs hC
   go_wp2
   go_ret;exact⟨_,fq,rfl,HF.o,hf,gd⟩
abbrev fU:=List aT
def gY(x:fU):Nat:=jG x
theorem bY{fp:List Nat}{w:World}{cs:Array Value}(q0:List aT)(h:Rd.rd (α:=fU) fp w cs.toList q0):
  ∃q B,cs=#[q]∧fp=B∧SlR B w q q0:=by
 generalize D:cs.toList=l at h;obtain⟨q,rfl,I⟩:=h;exact⟨_,_,Array.toList_inj.1 (by simpa using D),rfl,I⟩
theorem K8{fp:List Nat}{w:World}{c:Array Value}{x:fU}(h:Rd.rd fp w c.toList x):
 ∃q0 B q D,q0=x∧c=#[.slice B q0.length q]∧Ky (fp=D)∧SlR D w (.slice B q0.length q) q0∧q0.length≤q∧q0.length≤140737488351232:=by
 obtain⟨T,D,rfl,O,I⟩:=bY x h;obtain⟨B,q,rfl,J,K,-⟩:=I.open;exact⟨_,_,_,_,rfl,rfl,Kz O,I,J,K⟩
theorem rz{fp:List Nat}{w:World}{cs:Array Value}{x:fU}(h:Rd.rd (α:=fU) fp w cs.toList x):
  ∃q D B,cs=#[.slice q D B]:=by
 obtain⟨q0,rfl⟩:=nm (x);obtain⟨J,K,rfl,-,I⟩:=bY q0 h;obtain⟨q,B,rfl,-,-,-⟩:=I.open;exact⟨_,_,_,rfl⟩
theorem zU{w:World}(q0:List aT){h:Value}{q:List Nat}(B:SlR q w h q0):
  Rd.rd (α:=fU) (q) w [h] q0:=⟨_,rfl,B⟩
theorem qC(fp:List Nat)(cs:Array Value)(x:fU)(left:Int)(w:World)(B:Rd.rd fp w cs.toList x)(X:0≤left)(h1:left≤1048576):
  Qz 8 #[.agg cs,.int .i64 left] w (.int .i64 (less left (gY x))):=by
 obtain⟨q0,rfl⟩:=nm (x);obtain⟨J,D,rfl,-,h⟩:=bY q0 B;obtain⟨K,O,rfl,T,U,-⟩:=h.open;have q:gY q0=(jG q0):=by rfl
 have I:=Kz q;clear q B;delta Qz;go_in;go_wp2_with fail;refine(BN D _ _ _ _ (h.gr gd) (by omega) (by omega)).mono ?_;rintro e w0 ⟨rfl,Y,rfl⟩;have V:=fD (left) (jG q0) (by omega);go_wp2_with fail
 ·go_ret
  refine⟨aC ?_,gd⟩;have:=aH left (gY q0);have:=I.o;have:=aH (left) (jG q0);omega
 ·skip
  go_ret;refine⟨aC ?_,gd⟩;have:=aH left (gY q0);have:=I.o;have:=aH (left) (jG q0);omega
theorem Gs(q0:List aT)(h:List aT)(q:q0=h):(q0:fU)=h:=by
 exact q
theorem Dw(fp fq:List Nat)(cs D:Array Value)(x y:fU)(w:World)(I:Rd.rd fp w cs.toList x)(J:Rd.rd fq w D.toList y):
  Qz 17 #[.agg cs,.agg D] w (.bool (decide (x=y))):=by
 obtain⟨q0,rfl⟩:=nm (x);obtain⟨h,rfl⟩:=nm (y);obtain⟨U,K,rfl,-,q⟩:=bY q0 I;obtain⟨V,O,rfl,-,B⟩:=bY h J;obtain⟨X,Y,rfl,-,-,-⟩:=q.open;obtain⟨Z,ae,rfl,-,-,-⟩:=B.open;clear I J;delta Qz;go_in;go_wp2_with fail;refine(BP K O _ _ q0 h _ (q.gr gd) (B.gr gd)).mono ?_;rintro e w0 ⟨rfl,x0,rfl⟩;go_wp2_with fail
 ·have ht:(!decide (q0=h))=true:=by assumption
  go_ret;exact⟨aa (decide_eq_false fun e=>iy ht (congrArg (fun z:fU=>z) e)).symm,gd⟩
 ·skip
  have T:=Kz (iq (show(!decide (q0=h))=false by assumption));go_ret;exact⟨aa (decide_eq_true (Gs q0 h T.o)).symm,gd⟩
theorem ni(fp:List Nat)(cs:Array Value)(x:fU)(w:World)(I:Rd.rd fp w cs.toList x)(hl:gY x≤1048576):
  Calls Tryz.prog 12 #[.agg cs] w fun e w'=>∃J fq,e=.returned (.agg J)∧Rd.rd fq w' J.toList x∧aY w fq∧Gr w w':=by
 obtain⟨q0,rfl⟩:=nm (x);obtain⟨X,K,rfl,-,q⟩:=bY q0 I;obtain⟨Y,Z,rfl,-,-,-⟩:=q.open;have B:gY q0=(jG q0):=by rfl
 have V:=Kz B;clear B I;go_in;go_wp2_with fail;refine(Ce K _ _ _ (q.gr gd) (by have:=V.o;omega)).mono ?_;rintro e w0 ⟨u0,g0,rfl,O,D,x0,rfl⟩;obtain⟨T,U,rfl,-,-,-⟩:=O.open;go_wp2_with fail
 have h:aY w g0:=by
  exact(aY.of_le D (by simp<;>omega))
 exact bodyPost_ret (v:=.agg #[.slice T q0.length U]) (by simp[results,Tryz.results12,go_sem]) rfl
  ⟨_,_,rfl,zU q0 (SlR.moved O D gd (by simp)),h,gd⟩
variable{d:Nat}
structure TestNode(w:World)(fid:Nat)(cap:Array Value)(p:aT→Bool)(xs:List aT):Prop where
 fn:∀args W,(callFunc fid args).run Tryz.prog W=.ok (.enter fid args) W
 calls:∀y∈xs,∀(x:Ext) (fp:List Nat) (cs:Array Value),Rd.rd fp (w.ext x) cs.toList y→Qz fid (#[.agg cs]++cap) (w.ext x) (.bool (p y))
theorem l9(fp:List Nat)(u:Value)(xs:List aT)(D:Nat)(cap:Array Value)(p:aT→Bool)(w:World)(hu:SlR fp w u xs)(Z:TestNode w D cap p xs):
  Qz 181 #[u,.func (.func D) #[] cap] w (.int .i64 (idxOf p xs)):=by
 obtain⟨a,ca,rfl,h1,h2,V⟩:=hu.open;obtain⟨ae,q⟩:=Z;have HC:=Kz q;clear q;delta Qz;go_in
 go_wp2
 go_loopw [8,5] (fun I s5 wr=>∃k:Nat,k≤xs.length∧(∀j (h:j<xs.length),j<k→p xs[j]=false)∧Gr w wr∧I=.int .i64 k) (fun I s5 _=>xs.length - (intOf I).toNat)
 case atStart=>exact⟨0,by omega,by omega,Gr.refl w,rfl⟩
 case round=>
  obtain⟨k,hk,ht,⟨x,rfl⟩,rfl⟩:=hrel;have J:=Kz ht;clear ht
  by_cases B:k<xs.length
  ·obtain⟨b,off,rfl,hb⟩:=V k B
   obtain⟨q0,q1,q2,q3,q4,q5,ah,ai,aj,ak,X,Y,-,-,-,-,-,au,-,-,z0,z1,z2,z3,z4,z5,-⟩:=KZ hu B (Gr.refl _);have K:=Lb X Y;clear V;go_wp2_with fail;refine(HC.o _ (List.getElem_mem B) _ _ _ (Rd.gr K gd)).mono ?_;rintro e w2 ⟨rfl,x2,rfl⟩
   go_wp2
   ·have O:p xs[k]=true:=by assumption
    go_ret;exact⟨aC (iH B O J.o).symm,gd⟩
   ·have O:p xs[k]=false:=by assumption
    refine⟨⟨k+1,by omega,fun j T ax=>?_,gd,by go_num⟩,by simp[intOf];omega⟩
    by_cases U:j<k
    ·exact J.o j T U
    ·obtain rfl:j=k:=by omega
     exact O
  ·go_wp2
   go_ret;exact⟨aC (gu fun j T=>J.o j T (by omega)).symm,gd⟩
theorem om(fp:List Nat)(u:Value)(xs:List aT)(h:Nat)(cap:Array Value)(p:aT→Bool)(w:World)(hu:SlR fp w u xs)(q:TestNode w h cap p xs):
  Qz 138 #[u,.func (.func h) #[] cap] w (.bool (xs.any p)):=by
 delta Qz;go_in
 go_wp2_with (go_at_call 181;refine(l9 fp _ _ _ _ _ _ hu q).mono ?_;rintro e w1 ⟨rfl,g1⟩)
 go_ret;refine⟨aa ?_,by assumption⟩;rw[Bool.eq_iff_iff,decide_eq_true_iff];exact iW
theorem mV(a b:Int)(w:World):Calls Tryz.prog 205 #[.int .i64 a,.int .i64 b] w fun e w'=>e=.returned (.int .i64 (max a b))∧w=w':=by
 by_cases h:b<a
 ·skip
  go_in;go_wp2_with fail;go_ret;exact⟨aC (by omega),rfl⟩
 ·skip
  go_in;go_wp2_with fail;go_ret;exact⟨aC (by omega),rfl⟩
theorem tO(a b:Int)(w:World):Calls Tryz.prog 206 #[.int .i64 a,.int .i64 b] w fun e w'=>e=.returned (.int .i64 (min a b))∧w=w':=by
 by_cases h:a<b
 ·skip
  go_in;go_wp2_with fail;go_ret;exact⟨aC (by omega),rfl⟩
 ·skip
  go_in;go_wp2_with fail;go_ret;exact⟨aC (by omega),rfl⟩
def sat(n:Int):Int:=max (-1000000) (min 1000000 n)
theorem sat_iff{n:Int}:sat n=n↔-1000000≤n∧n≤1000000:=by unfold sat;omega
theorem ou(n:Int)(w:World):Calls Tryz.prog 202 #[.int .i64 n] w fun e w'=>e=.returned (.int .i64 (sat n))∧w=w':=by
 go_in;go_wp2_with fail;refine(tO _ _ _).mono ?_;rintro e w' ⟨rfl,rfl⟩;go_wp2_with fail;refine(mV _ _ _).mono ?_;rintro e w' ⟨rfl,rfl⟩;go_wp2_with fail;go_ret;exact⟨aC rfl,rfl⟩
theorem u7(n:Int)(w:World):Calls Tryz.prog 161 #[.int .i64 n,.int .i64 1] w fun e w'=>e=.returned (.int .i64 (sat n))∧w=w':=by
 go_in;go_wp2_with fail;refine(ou _ _).mono ?_;rintro e w' ⟨rfl,rfl⟩;go_wp2_with fail;go_ret;exact⟨aC rfl,rfl⟩
theorem Ct(n:Int)(w:World):Calls Tryz.prog 125 #[.int .i64 n,.int .i64 1] w fun e w'=>e=.returned (.bool (decide (-1000000≤n)&&decide (n≤1000000)))∧w=w':=by
 go_in;go_wp2_with fail;refine(fI _ _ _ _).mono ?_;rintro e w' ⟨rfl,rfl⟩;go_wp2_with fail;refine(u7 _ _).mono ?_;rintro e w' ⟨rfl,rfl⟩;go_wp2_with fail;go_ret;refine⟨aa ?_,rfl⟩;rw[Bool.eq_iff_iff];simp;exact sat_iff
section
variable{P:Program}{ops:Array Oper}{Q:Exit→Act→World→Prop}
structure InvK(P:Program)(ops:Array Oper)(S:(Nat→Bool)→Act→World→Prop)(V:Bool→Nat→Value→World→Prop)(z:Nat)(a0:Act)(l:Array Bool)(a:Act)(w:World):Prop where
 size:l.size=ops.size
 fr:FrI a0 (Jy ops) a
 s:S (fun j=>l.getD j false) a w
 v:∀j o d,ops[j]?=some o→l.getD j false=true→o.dst=some d→V (l.getD z false) d (a.eval (.tmp d)) w
 z:l.getD z false=true→∀o,ops[z]?=some o→∀e∈o.after,Region.binds .any e=true→l.getD e.on false=true
end
end Go.Proofs.YtleafadpfeibfaaGreat
