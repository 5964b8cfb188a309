/- Contracts and laws towards ReadsOf, part 18 of 54. No condition. -/
import Derived.Test.YtleafadpfeibfaaGreatRx12
import Derived.Test.YtleafadpfeibfaaGreatRx11
set_option maxHeartbeats 32000000
set_option maxRecDepth 10000
set_option linter.unusedVariables false
set_option linter.unusedSimpArgs false
namespace Go.Proofs.YtleafadpfeibfaaGreat
open Go.RowKit
open _root_.List (append_nil nil_append take_length)
def zz(k:Int):aQ→aQ×Int
 |(_,_,_,_)=>((mtx (k),k+1,k+1+1,mbo (k+1+1+1)),k+1+1+1+1)
theorem pV(k:Int)(x:aQ):k≤(zz k x).2∧(zz k x).2≤k+16*(1+bI x):=by
 obtain⟨q0,q1,q2,q3⟩:=x;have hw:bI (q0,q1,q2,q3)=(q0.size):=rfl;simp only[zz] at*;omega
theorem nM(k:Int)(x:aQ):k≤(zz k x).2:=(pV k x).1
def dW(k:Int)(x:List aQ):List aQ×Int:=gK zz k x
theorem oG(k:Int)(x:List aQ):k≤(dW k x).2∧(dW k x).2≤k+16*dP x:=by
 have:=jN zz bI pV x k;unfold dW dP;exact this
theorem sH(k:Int)(x:List aQ):k≤(dW k x).2:=(oG k x).1
theorem qG(fp:List Nat)(u:Value)(xs:List aQ)(k:Int)(w:World)(hu:SlR fp w u xs)(ah:fp.Nodup)(h0:0<k)(h1:(dW k xs).2≤4398046511104):
  Calls Tryz.prog 81 #[u,.int .i64 k] w fun e w'=>e=.returned (.int .i64 (dW k xs).2)∧SlR fp w' u (dW k xs).1∧Wr fp w w':=by
 obtain⟨a,ca,rfl,g1,g2,g3⟩:=hu.open;have H1:=Kz h1;clear h1;go_in
 go_wp2
 go_loopw [5,1] (fun Y s1 wr=>∃(i:Nat) (m:Int),i≤xs.length∧Ky (m=(gK zz k (xs.take i)).2)∧SlR fp wr (.slice a xs.length ca) (markT zz k xs i)∧Wr fp w wr∧Y=.int .i64 i∧s1=.int .i64 m) (fun Y _ _=>xs.length - (intOf Y).toNat)
 case atStart=>exact⟨0,k,by omega,Kz (by simp[gK]),by rw[iE];exact hu,Wr.refl _ _,rfl,rfl⟩
 case round=>
  obtain⟨i,m,hi,hm,hs,hW,rfl,rfl⟩:=hrel;have Z:=Kz hs;have HW:=Kz hW;clear hs hW
  by_cases q:i<xs.length
  ·obtain⟨b,off,rfl,hb⟩:=g3 i q
   have ae:i<(markT zz k xs i).length:=by rw[iJ];exact q
   obtain⟨cs,fq,hc,hr,hsub,ai,O,T,hz,D⟩:=Z.o.focus ah ae
   have HP:=Kz D;rw[kQ zz k xs q] at hr;obtain⟨y,K⟩:=nm (xs[i]);rw[←K] at hr;have HY:=Kz K;have bd:=dG zz nM k xs (i+1);have U:=dG zz nM k xs i;rw[dF zz k xs q,←hm.o,←K] at bd;rw[←hm.o] at U;obtain⟨q0,q1,q2,q3⟩:=y;obtain⟨V,X,-,-,-⟩:=aR (cs:=cs.toArray) q0 q1 q2 q3 (by simpa using hr);obtain rfl:=toL V;rw[X] at hsub O T HP D hr;clear X;have z0:wr.cell? ⟨b,off+i*4,none⟩=some (.string q0):=by simpa[Rd.n] using hc 0 _ rfl
   replace hc:∀j v,_→wr.cell? ⟨b,off+i*4+j,none⟩=some v:=hc;have z1:=hc 1 _ rfl;have z2:=hc 2 _ rfl;have z3:=hc 3 _ rfl;have f0:wr.frozen? ⟨b,off+i*4,none⟩=false:=by simpa[Rd.n] using hz 0 (by decide)
   replace hz:∀j,j<4→wr.frozen? ⟨b,off+i*4+j,none⟩=false:=hz;have f1:=hz 1 (by decide);have f2:=hz 2 (by decide);have f3:=hz 3 (by decide);have bl:=blk z0;have m0:0<m:=by omega
   have em:(zz m (q0,q1,q2,q3)).2=m+1+1+1+1:=rfl;rw[em] at bd;have m1:m+1+1+1+1≤4398046511104:=by have h:=H1.o;have e:(dW k xs).2=(gK zz k xs).2:=rfl;omega
   have bg:=fun o o' (h:¬o'=o)=>cne b o o' h
   have fz:=fun(W:World) (o o':Nat) (v:Value)=>(eQ:(W.setCell ⟨b,o,none⟩ v).frozen? ⟨b,o',none⟩=W.frozen? ⟨b,o',none⟩)
   have aj:=Kz (fK (m) (by omega));have ak:=Kz (eH (y:=m+1) (by omega) (by omega));have au:=Kz (eH (y:=m+1+1) (by omega) (by omega));clear hc hz D U g3 em K hr V;clear O T hsub;go_wp2_with fail;refine(dz (m) _ (by omega) (by omega)).mono ?_;rintro e w0 ⟨rfl,x0,rfl⟩;go_wp2_with fail;refine⟨⟨i+1,m+1+1+1+1,by omega,Kz ?_,?_,?_,by go_num,rfl⟩,by simp[intOf];omega⟩
   ·rw[dF zz k xs q,←hm.o,←HY.o];rfl
   ·rw[iA zz k xs q,←hm.o,←HY.o]
    refine HP.o _ [.string (mtx (m)),.int .i64 (m+1),.int .i64 (m+1+1),.bool (mbo (m+1+1+1))] (zz m (q0,q1,q2,q3)).1 (by repeat(first|with_reducible refine Foc.set ?_ (by simp[Rd.n]<;>omega) (by simp[Rd.n]<;>omega) _|with_reducible refine Foc.gr ?_ bl (Gr.ext (Gr.refl _) _)|exact Foc.refl _ _ _ _ _)) (fun j v B=>?_) (jk (mtx (m)) (m+1) (m+1+1) (mbo (m+1+1+1)) aj.o ak.o au.o)
    have en:off+i*Rd.n aQ=off+i*4:=rfl;rw[en]
    match j,B with
    |0,B=>obtain rfl:=Option.some.inj B;go_simp
    |1,B=>obtain rfl:=Option.some.inj B;go_simp
    |2,B=>obtain rfl:=Option.some.inj B;go_simp
    |3,B=>obtain rfl:=Option.some.inj B;go_simp
   ·repeat(first|with_reducible refine Wr.setCell ?_ ai _|with_reducible refine Wr.gr ?_ (Gr.ext (Gr.refl _) _)|exact HW.o)
  ·have ax:i=xs.length:=by omega
   subst ax;have I:=Z.o;rw[jb] at I;have J:=hm.o;rw[take_length] at J;have ay:=Kz I;have aZ:=Kz J;clear I J Z hm
   go_wp2
   go_ret;exact⟨aC aZ.o,ay.o,HW.o⟩
def KE(k:Int):bC→bC×Int
 |(_,q1)=>((mtx (k),(dW (k+1) q1).1),(dW (k+1) q1).2)
theorem xg(k:Int)(x:bC):k≤(KE k x).2∧(KE k x).2≤k+16*(1+bM x):=by
 obtain⟨q0,q1⟩:=x;have h:=oG (k+1) q1;have hw:bM (q0,q1)=(q0.size)+(dP q1):=rfl;simp only[KE] at*;omega
theorem rf(k:Int)(x:bC):k≤(KE k x).2:=(xg k x).1
def fA(k:Int)(x:List bC):List bC×Int:=gK KE k x
theorem uL(k:Int)(x:List bC):k≤(fA k x).2∧(fA k x).2≤k+16*dH x:=by
 have:=jN KE bM xg x k;unfold fA dH;exact this
theorem yL(k:Int)(x:List bC):k≤(fA k x).2:=(uL k x).1
theorem vE(fp:List Nat)(u:Value)(xs:List bC)(k:Int)(w:World)(hu:SlR fp w u xs)(bH:fp.Nodup)(h0:0<k)(h1:(fA k xs).2≤4398046511104):
  Calls Tryz.prog 49 #[u,.int .i64 k] w fun e w'=>e=.returned (.int .i64 (fA k xs).2)∧SlR fp w' u (fA k xs).1∧Wr fp w w':=by
 obtain⟨a,ca,rfl,g1,g2,g3⟩:=hu.open;have H1:=Kz h1;clear h1;go_in
 go_wp2
 go_loopw [5,1] (fun s5 s1 wr=>∃(i:Nat) (m:Int),i≤xs.length∧Ky (m=(gK KE k (xs.take i)).2)∧SlR fp wr (.slice a xs.length ca) (markT KE k xs i)∧Wr fp w wr∧s5=.int .i64 i∧s1=.int .i64 m) (fun s5 _ _=>xs.length - (intOf s5).toNat)
 case atStart=>exact⟨0,k,by omega,Kz (by simp[gK]),by rw[iE];exact hu,Wr.refl _ _,rfl,rfl⟩
 case round=>
  obtain⟨i,m,hi,hm,hs,hW,rfl,rfl⟩:=hrel;have HS:=Kz hs;have HW:=Kz hW;clear hs hW
  by_cases B:i<xs.length
  ·obtain⟨b,off,rfl,hb⟩:=g3 i B
   have ax:i<(markT KE k xs i).length:=by rw[iJ];exact B
   obtain⟨cs,fq,hc,hr,hsub,bL,O,T,hz,J⟩:=HS.o.focus bH ax
   have HP:=Kz J;rw[kQ KE k xs B] at hr;obtain⟨y,hy⟩:=nm (xs[i]);rw[←hy] at hr;have HY:=Kz hy;have bd:=dG KE rf k xs (i+1);have ai:=dG KE rf k xs i;rw[dF KE k xs B,←hm.o,←hy] at bd;rw[←hm.o] at ai;obtain⟨q0,q1⟩:=y;obtain⟨dB,q,aj,ak,-,U⟩:=aV (cs:=cs.toArray) q0 q1 (by simpa using hr);obtain rfl:=toL aj;rw[ak] at hsub O T HP J hr;clear ak;have z0:wr.cell? ⟨b,off+i*2,none⟩=some (.string q0):=by simpa[Rd.n] using hc 0 _ rfl
   replace hc:∀j v,_→wr.cell? ⟨b,off+i*2+j,none⟩=some v:=hc;have z1:=hc 1 _ rfl;have f0:wr.frozen? ⟨b,off+i*2,none⟩=false:=by simpa[Rd.n] using hz 0 (by decide)
   have K:=blk z0;have m0:0<m:=by omega
   have em:(KE m (q0,q1)).2=(dW (m+1) q1).2:=rfl;rw[em] at bd;have dS:=sH (m+1) q1;have m1:(dW (m+1) q1).2≤4398046511104:=by have h:=H1.o;have e:(fA k xs).2=(gK KE k xs).2:=rfl;omega
   have ay:=fun o o' (h:¬o'=o)=>cne b o o' h
   have fz:=fun(W:World) (o o':Nat) (v:Value)=>(eQ:(W.setCell ⟨b,o,none⟩ v).frozen? ⟨b,o',none⟩=W.frozen? ⟨b,o',none⟩)
   have bR:=Kz (fK (m) (by omega));have N0:(q).Nodup:=by simpa only[nil_append,append_nil] using T
   have M0:b∉q:=by simpa only[nil_append,append_nil] using O
   have uq1:=N0;have au:b∉q:=fun h=>M0 (by simp[h])
   have bX:=Kz U;obtain⟨V,X,rfl,-,-,-⟩:=U.open;have D:=Kz au;have aZ:=Kz uq1;clear au uq1 M0 N0 U;clear hc hz J ai g3 em hy hr aj;have bg:=Kz hsub;clear O T hsub;go_wp2_with fail;refine(dz (m) _ (by omega) (by omega)).mono ?_;rintro e w0 ⟨rfl,x0,rfl⟩;go_wp2_with fail;refine(qG q _ q1 (m+1) _ ((SlR.wr bX.o (fp:=[b]) (by repeat(first|with_reducible refine Wr.setCell ?_ (by simp) _|with_reducible refine Wr.gr ?_ (Gr.ext (Gr.refl _) _)|exact Wr.refl _ _)) (by have:=D.o;intro c hc I;simp at I;subst I;exact this hc))) aZ.o (by omega) (by show(dW (m+1) q1).2≤_;omega)).mono ?_;rintro e y1 ⟨rfl,t1,r1⟩;have T1:=Kz t1;have R1:=Kz r1;clear t1 r1;have F1:=Kz (Foc.inner (b:=b) (lo:=off+i*Rd.n bC) (n:=Rd.n bC) (fq:=([]++q)) (w:=wr) (by repeat(first|with_reducible refine Foc.set ?_ (by simp[Rd.n]<;>omega) (by simp[Rd.n]<;>omega) _|with_reducible refine Foc.gr ?_ K (Gr.ext (Gr.refl _) _)|exact Foc.refl _ _ _ _ _)) K R1.o (by intro c hc;simp[hc]) D.o);have ah:=T1;have e1:=R1.o.block b (Nat.lt_of_lt_of_le K (Foc.wr (b:=b) (lo:=off+i*Rd.n bC) (n:=Rd.n bC) (fq:=([]++q)) (w:=wr) (by repeat(first|with_reducible refine Foc.set ?_ (by simp[Rd.n]<;>omega) (by simp[Rd.n]<;>omega) _|with_reducible refine Foc.gr ?_ K (Gr.ext (Gr.refl _) _)|exact Foc.refl _ _ _ _ _))).size) D.o;have c1:=fun(o:Nat)=>World.cell?_of_block (a:=⟨b,o,none⟩) e1
   have bq:y1.cell? ⟨b,off+i*2,none⟩=some (.string (mtx (m))):=(c1 _).trans (by go_simp);have bB:y1.cell? ⟨b,off+i*2+1,none⟩=some (.slice V q1.length X):=(c1 _).trans (by go_simp);have s1:=R1.o.size;clear e1 c1 z0 z1;clear fz ay f0;go_wp2_with fail;refine⟨⟨i+1,(dW (m+1) q1).2,by omega,Kz ?_,?_,?_,by go_num,rfl⟩,by simp[intOf];omega⟩
   ·rw[dF KE k xs B,←hm.o,←HY.o];rfl
   ·rw[iA KE k xs B,←hm.o,←HY.o]
    refine HP.o _ [.string (mtx (m)),.slice V q1.length X] (KE m (q0,q1)).1 (by repeat(first|with_reducible refine Foc.set ?_ (by simp[Rd.n]<;>omega) (by simp[Rd.n]<;>omega) _|with_reducible refine Foc.gr ?_ K (Gr.ext (Gr.refl _) _)|exact F1.o)) (fun j v Y=>?_) (iQ (mtx (m)) ((dW (m+1) q1).1) bR.o (SlR.wr ah.o (fp:=[b]) (by repeat(first|with_reducible refine Wr.setCell ?_ (by simp) _|with_reducible refine Wr.gr ?_ (Gr.ext (Gr.refl _) _)|exact Wr.refl _ _)) (by have:=D.o;intro c hc I;simp at I;subst I;exact this hc)))
    have en:off+i*Rd.n bC=off+i*2:=rfl;rw[en]
    match j,Y with
    |0,Y=>obtain rfl:=Option.some.inj Y;exact bq
    |1,Y=>obtain rfl:=Option.some.inj Y;exact bB
   ·exact HW.o.trans (Wr.sub (Foc.wr (b:=b) (lo:=off+i*Rd.n bC) (n:=Rd.n bC) (fq:=([]++q)) (by repeat(first|with_reducible refine Foc.set ?_ (by simp[Rd.n]<;>omega) (by simp[Rd.n]<;>omega) _|with_reducible refine Foc.gr ?_ K (Gr.ext (Gr.refl _) _)|exact F1.o))) (fun c hc=>by
     rcases List.mem_cons.1 hc with rfl|hc
     ·exact bL
     ·exact bg.o c hc))
  ·have cB:i=xs.length:=by omega
   subst cB;have Z:=HS.o;rw[jb] at Z;have ae:=hm.o;rw[take_length] at ae;have cK:=Kz Z;have cO:=Kz ae;clear Z ae HS hm
   go_wp2
   go_ret;exact⟨aC cO.o,cK.o,HW.o⟩
variable{d:Nat}
def zS(k:Int):(aX d)→(aX d)×Int
 |((_,_),(_,_,_,_,_,_,h))=>(((k,mtx (k+1)),(k+1+1,k+1+1+1,k+1+1+1+1,k+1+1+1+1+1,mtx (k+1+1+1+1+1+1),mtx (k+1+1+1+1+1+1+1),(bD (k+1+1+1+1+1+1+1+1) h).1)),(bD (k+1+1+1+1+1+1+1+1) h).2)
theorem rq(k:Int)(x:(aX d)):k≤(zS k x).2∧(zS k x).2≤k+16*(1+aU x):=by
 obtain⟨⟨O,T⟩,⟨D,I,J,K,q,B,h⟩⟩:=x;have U:=oW (k+1+1+1+1+1+1+1+1) h;have V:aS (D,I,J,K,q,B,h)=(q.size)+(B.size)+(fC h):=rfl;have hw:aU ((O,T),(D,I,J,K,q,B,h))=(dn (O,T))+(aS (D,I,J,K,q,B,h)):=rfl;simp only[zS] at*;omega
theorem ow(k:Int)(x:(aX d)):k≤(zS k x).2:=(rq k x).1
def dL(k:Int)(x:List (aX d)):List (aX d)×Int:=gK zS k x
theorem qo(k:Int)(x:List (aX d)):k≤(dL k x).2∧(dL k x).2≤k+16*cz x:=by
 have:=jN zS aU rq x k;unfold dL cz;exact this
theorem vC(k:Int)(x:List (aX d)):k≤(dL k x).2:=(qo k x).1
theorem rE(fp:List Nat)(u:Value)(xs:List (aX d))(k:Int)(w:World)(hu:SlR fp w u xs)(o9:fp.Nodup)(h0:0<k)(h1:(dL k xs).2≤4398046511104):
  Calls Tryz.prog 83 #[u,.int .i64 k] w fun e w'=>e=.returned (.int .i64 (dL k xs).2)∧SlR fp w' u (dL k xs).1∧Wr fp w w':=by
 obtain⟨a,ca,rfl,g1,g2,g3⟩:=hu.open;have H1:=Kz h1;clear h1;go_in
 go_wp2
 go_loopw [5,1] (fun s5 s1 wr=>∃(i:Nat) (m:Int),i≤xs.length∧Ky (m=(gK zS k (xs.take i)).2)∧SlR fp wr (.slice a xs.length ca) (markT zS k xs i)∧Wr fp w wr∧s5=.int .i64 i∧s1=.int .i64 m) (fun s5 _ _=>xs.length - (intOf s5).toNat)
 case atStart=>exact⟨0,k,by omega,Kz (by simp[gK]),by rw[iE];exact hu,Wr.refl _ _,rfl,rfl⟩
 case round=>
  obtain⟨i,m,hi,hm,hs,hW,rfl,rfl⟩:=hrel;have HS:=Kz hs;have HW:=Kz hW;clear hs hW
  by_cases J:i<xs.length
  ·obtain⟨b,off,rfl,hb⟩:=g3 i J
   have cO:i<(markT zS k xs i).length:=by rw[iJ];exact J
   obtain⟨cs,fq,hc,hr,hsub,qb,ae,ah,hz,T⟩:=HS.o.focus o9 cO
   have HP:=Kz T;rw[kQ zS k xs J] at hr;obtain⟨y,hy⟩:=nm (xs[i]);rw[←hy] at hr;have HY:=Kz hy;have bd:=dG zS ow k xs (i+1);have bX:=dG zS ow k xs i;rw[dF zS k xs J,←hm.o,←hy] at bd;rw[←hm.o] at bX;obtain⟨⟨V,ai⟩,⟨aj,ak,au,ax,ay,aZ,B⟩⟩:=y;obtain⟨uf,D,cB,cK,-,-,-,-,-,-,-,-,U⟩:=bN (cs:=cs.toArray) V ai aj ak au ax ay aZ B (by simpa using hr);obtain rfl:=toL cB;rw[cK] at hsub ae ah HP T hr;clear cK;have z0:wr.cell? ⟨b,off+i*9,none⟩=some (.int .i64 V):=by simpa[Rd.n] using hc 0 _ rfl
   replace hc:∀j v,_→wr.cell? ⟨b,off+i*9+j,none⟩=some v:=hc;have z1:=hc 1 _ rfl;have z2:=hc 2 _ rfl;have z3:=hc 3 _ rfl;have z4:=hc 4 _ rfl;have z5:=hc 5 _ rfl;have z6:=hc 6 _ rfl;have z7:=hc 7 _ rfl;have z8:=hc 8 _ rfl;have f0:wr.frozen? ⟨b,off+i*9,none⟩=false:=by simpa[Rd.n] using hz 0 (by show _<9;decide)
   replace hz:∀j,j<9→wr.frozen? ⟨b,off+i*9+j,none⟩=false:=hz;have f1:=hz 1 (by decide);have f2:=hz 2 (by decide);have f3:=hz 3 (by decide);have f4:=hz 4 (by decide);have f5:=hz 5 (by decide);have f6:=hz 6 (by decide);have f7:=hz 7 (by decide);have Z:=blk z0;have m0:0<m:=by omega
   have em:(zS m ((V,ai),(aj,ak,au,ax,ay,aZ,B))).2=(bD (m+1+1+1+1+1+1+1+1) B).2:=rfl;rw[em] at bd;have uo:=mq (m+1+1+1+1+1+1+1+1) B;have m1:(bD (m+1+1+1+1+1+1+1+1) B).2≤4398046511104:=by have h:=H1.o;have e:(dL k xs).2=(gK zS k xs).2:=rfl;omega
   have dB:=fun o o' (h:¬o'=o)=>cne b o o' h
   have fz:=fun(W:World) (o o':Nat) (v:Value)=>(eQ:(W.setCell ⟨b,o,none⟩ v).frozen? ⟨b,o',none⟩=W.frozen? ⟨b,o',none⟩)
   have dS:=Kz (eH (y:=m) (by omega) (by omega));have dV:=Kz (fK (m+1) (by omega));have fe:=Kz (eH (y:=m+1+1) (by omega) (by omega));have fu:=Kz (eH (y:=m+1+1+1) (by omega) (by omega));have gB:=Kz (eH (y:=m+1+1+1+1) (by omega) (by omega));have gD:=Kz (eH (y:=m+1+1+1+1+1) (by omega) (by omega));have gF:=Kz (fK (m+1+1+1+1+1+1) (by omega));have gT:=Kz (fK (m+1+1+1+1+1+1+1) (by omega));have N0:(D).Nodup:=by simpa only[nil_append,append_nil] using ah
   have M0:b∉D:=by simpa only[nil_append,append_nil] using ae
   have bg:=N0;have bq:b∉D:=fun h=>M0 (by simp[h])
   have gV:=Kz U;obtain⟨X,Y,rfl,-,-,-⟩:=U.open;have I:=Kz bq;have bR:=Kz bg;clear bq bg M0 N0 U;clear hc hz T bX g3 em hy hr cB;have gX:=Kz hsub;clear ae ah hsub;go_wp2_with fail;refine(dz (m+1) _ (by omega) (by omega)).mono ?_;rintro e w1 ⟨rfl,x1,rfl⟩;go_wp2_with fail;refine(dz (m+1+1+1+1+1+1) _ (by omega) (by omega)).mono ?_;rintro e w6 ⟨rfl,x6,rfl⟩;go_wp2_with fail;refine(dz (m+1+1+1+1+1+1+1) _ (by omega) (by omega)).mono ?_;rintro e w7 ⟨rfl,x7,rfl⟩;go_wp2_with fail;refine(mH D _ B (m+1+1+1+1+1+1+1+1) _ ((SlR.wr gV.o (fp:=[b]) (by repeat(first|with_reducible refine Wr.setCell ?_ (by simp) _|with_reducible refine Wr.gr ?_ (Gr.ext (Gr.refl _) _)|exact Wr.refl _ _)) (by have:=I.o;intro c hc O;simp at O;subst O;exact this hc))) bR.o (by omega) (by show(bD (m+1+1+1+1+1+1+1+1) B).2≤_;omega)).mono ?_;rintro e K ⟨rfl,t8,r8⟩;have T8:=Kz t8;have R8:=Kz r8;clear t8 r8;have F8:=Kz (Foc.inner (b:=b) (lo:=off+i*Rd.n (aX d)) (n:=Rd.n (aX d)) (fq:=(([]++[])++([]++([]++([]++([]++([]++([]++D)))))))) (w:=wr) (by repeat(first|with_reducible refine Foc.set ?_ (by simp[Rd.n]<;>omega) (by simp[Rd.n]<;>omega) _|with_reducible refine Foc.gr ?_ Z (Gr.ext (Gr.refl _) _)|exact Foc.refl _ _ _ _ _)) Z R8.o (by intro c hc;simp[hc]) I.o);have bB:=T8;have e8:=R8.o.block b (Nat.lt_of_lt_of_le Z (Foc.wr (b:=b) (lo:=off+i*Rd.n (aX d)) (n:=Rd.n (aX d)) (fq:=(([]++[])++([]++([]++([]++([]++([]++([]++D)))))))) (w:=wr) (by repeat(first|with_reducible refine Foc.set ?_ (by simp[Rd.n]<;>omega) (by simp[Rd.n]<;>omega) _|with_reducible refine Foc.gr ?_ Z (Gr.ext (Gr.refl _) _)|exact Foc.refl _ _ _ _ _))).size) I.o;have c8:=fun(o:Nat)=>World.cell?_of_block (a:=⟨b,o,none⟩) e8
   have ik:K.cell? ⟨b,off+i*9,none⟩=some (.int .i64 (m)):=(c8 _).trans (by go_simp);have iw:K.cell? ⟨b,off+i*9+1,none⟩=some (.string (mtx (m+1))):=(c8 _).trans (by go_simp);have kr:K.cell? ⟨b,off+i*9+2,none⟩=some (.int .i64 (m+1+1)):=(c8 _).trans (by go_simp);have ku:K.cell? ⟨b,off+i*9+3,none⟩=some (.int .i64 (m+1+1+1)):=(c8 _).trans (by go_simp);have ky:K.cell? ⟨b,off+i*9+4,none⟩=some (.int .i64 (m+1+1+1+1)):=(c8 _).trans (by go_simp);have lq:K.cell? ⟨b,off+i*9+5,none⟩=some (.int .i64 (m+1+1+1+1+1)):=(c8 _).trans (by go_simp);have oH:K.cell? ⟨b,off+i*9+6,none⟩=some (.string (mtx (m+1+1+1+1+1+1))):=(c8 _).trans (by go_simp);have oL:K.cell? ⟨b,off+i*9+7,none⟩=some (.string (mtx (m+1+1+1+1+1+1+1))):=(c8 _).trans (by go_simp);have o5:K.cell? ⟨b,off+i*9+8,none⟩=some (.slice X B.length Y):=(c8 _).trans (by go_simp);have s8:=R8.o.size;clear e8 c8 z0 z1 z2 z3 z4 z5 z6 z7 z8;clear fz dB f0 f1 f2 f3 f4 f5 f6 f7;go_wp2_with fail;refine⟨⟨i+1,(bD (m+1+1+1+1+1+1+1+1) B).2,by omega,Kz ?_,?_,?_,by go_num,rfl⟩,by simp[intOf];omega⟩
   ·rw[dF zS k xs J,←hm.o,←HY.o];rfl
   ·rw[iA zS k xs J,←hm.o,←HY.o]
    refine HP.o _ [.int .i64 (m),.string (mtx (m+1)),.int .i64 (m+1+1),.int .i64 (m+1+1+1),.int .i64 (m+1+1+1+1),.int .i64 (m+1+1+1+1+1),.string (mtx (m+1+1+1+1+1+1)),.string (mtx (m+1+1+1+1+1+1+1)),.slice X B.length Y] (zS m ((V,ai),(aj,ak,au,ax,ay,aZ,B))).1 (by repeat(first|with_reducible refine Foc.set ?_ (by simp[Rd.n]<;>omega) (by simp[Rd.n]<;>omega) _|with_reducible refine Foc.gr ?_ Z (Gr.ext (Gr.refl _) _)|exact F8.o)) (fun j v q=>?_) (ql (m) (mtx (m+1)) (m+1+1) (m+1+1+1) (m+1+1+1+1) (m+1+1+1+1+1) (mtx (m+1+1+1+1+1+1)) (mtx (m+1+1+1+1+1+1+1)) ((bD (m+1+1+1+1+1+1+1+1) B).1) dS.o dV.o fe.o fu.o gB.o gD.o gF.o gT.o (SlR.wr bB.o (fp:=[b]) (by repeat(first|with_reducible refine Wr.setCell ?_ (by simp) _|with_reducible refine Wr.gr ?_ (Gr.ext (Gr.refl _) _)|exact Wr.refl _ _)) (by have:=I.o;intro c hc O;simp at O;subst O;exact this hc)))
    have en:off+i*Rd.n (aX d)=off+i*9:=rfl;rw[en]
    match j,q with
    |0,q=>obtain rfl:=Option.some.inj q;exact ik
    |1,q=>obtain rfl:=Option.some.inj q;exact iw
    |2,q=>obtain rfl:=Option.some.inj q;exact kr
    |3,q=>obtain rfl:=Option.some.inj q;exact ku
    |4,q=>obtain rfl:=Option.some.inj q;exact ky
    |5,q=>obtain rfl:=Option.some.inj q;exact lq
    |6,q=>obtain rfl:=Option.some.inj q;exact oH
    |7,q=>obtain rfl:=Option.some.inj q;exact oL
    |8,q=>obtain rfl:=Option.some.inj q;exact o5
   ·exact HW.o.trans (Wr.sub (Foc.wr (b:=b) (lo:=off+i*Rd.n (aX d)) (n:=Rd.n (aX d)) (fq:=(([]++[])++([]++([]++([]++([]++([]++([]++D)))))))) (by repeat(first|with_reducible refine Foc.set ?_ (by simp[Rd.n]<;>omega) (by simp[Rd.n]<;>omega) _|with_reducible refine Foc.gr ?_ Z (Gr.ext (Gr.refl _) _)|exact F8.o))) (fun c hc=>by
     rcases List.mem_cons.1 hc with rfl|hc
     ·exact qb
     ·exact gX.o c hc))
  ·have q8:i=xs.length:=by omega
   subst q8;have bH:=HS.o;rw[jb] at bH;have bL:=hm.o;rw[take_length] at bL;have q9:=Kz bH;have sO:=Kz bL;clear bH bL HS hm
   go_wp2
   go_ret;exact⟨aC sO.o,q9.o,HW.o⟩
theorem FO:lh aT Tryz.prog 115:=by
 refine jD 6 Tryz.underlying115 rfl (by kernel_rfl) ?_
 refine(jq ?_ rfl (jq ?_ rfl (jq ?_ rfl (jq ?_ rfl (jq ?_ rfl (oZ ?_ rfl))))))
 ·exact(gN Tryz.underlying3 (by kernel_rfl))
 ·exact(gN Tryz.underlying3 (by kernel_rfl))
 ·exact(gN Tryz.underlying3 (by kernel_rfl))
 ·exact(gN Tryz.underlying3 (by kernel_rfl))
 ·exact(eP Tryz.underlying9 (by kernel_rfl))
 ·exact(kN Tryz.underlying54 (by kernel_rfl) (gN Tryz.underlying3 (by kernel_rfl)) (by kernel_rfl))
theorem FE:lh fU Tryz.prog 28:=by
 refine jD 1 Tryz.underlying28 rfl (by kernel_rfl) ?_
 refine(oZ ?_ rfl)
 ·exact(kN Tryz.underlying26 (by kernel_rfl) FO (by kernel_rfl))
end Go.Proofs.YtleafadpfeibfaaGreat
