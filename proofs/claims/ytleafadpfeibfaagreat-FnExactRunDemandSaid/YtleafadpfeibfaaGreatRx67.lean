/- Contracts and laws behind those of ReadsOf, part 3. No condition. -/
import Derived.Test.YtleafadpfeibfaaGreatRx65
import Derived.Test.YtleafadpfeibfaaGreatRx49
set_option maxHeartbeats 32000000
set_option maxRecDepth 10000
set_option linter.unusedVariables false
set_option linter.unusedSimpArgs false
namespace Go.Proofs.YtleafadpfeibfaaGreat
open Go.RowKit
theorem szInsR_any(fp:List Nat)(u:Value)(xs:List av)(left:Int)(w:World)(hu:SlR fp w u xs)(h0:0≤left)(h1:left≤1048576):
  Qz 29 #[u,.int .i64 left] w (.int .i64 (less left (kP xs))):=by
 obtain⟨a,ca,rfl,g1,g2,g3⟩:=hu.open
 by_cases T:left - xs.length<0
 ·have hle:less left (kP xs)= -1:=by unfold less kP wtL;rw[if_pos (by omega)]
  have HL:=Kz hle;clear hle;delta Qz;go_in
  go_wp2
  go_ret;exact⟨aC HL.o.symm,Gr.refl w⟩
 ·have O:less left xs.length=left - xs.length:=by unfold less;rw[if_neg T]
  have Y:=Kz O;clear O;delta Qz;go_in
  go_wp2
  go_loopw [5,1] (fun U s1 wr=>∃(k:Nat) (m:Int),k≤xs.length∧0≤m∧m≤1048576∧Ky (m=less left (xs.length+((xs.take k).map fM).sum))∧Gr w wr∧U=.int .i64 k∧s1=.int .i64 m) (fun U _ _=>xs.length - (intOf U).toNat)
  case atStart=>exact⟨0,_,by omega,by omega,by omega,Kz (by simp[Y.o]),Gr.refl w,rfl,rfl⟩
  case round=>
   obtain⟨k,m,hk,aj,ak,hm,⟨x,rfl⟩,rfl,rfl⟩:=hrel
   by_cases B:k<xs.length
   ·obtain⟨b,off,rfl,hb⟩:=g3 k B
    have D:=Kz (eZ fM xs k B);obtain⟨Z,ae,h,q,-⟩:=hu.at B;have V:=q;generalize xs[k]=yq at q;obtain⟨q0,q1⟩:=yq;obtain⟨I,X,au,ax⟩:=bK (cs:=Z.toArray) q0 q1 (by simpa using q);obtain rfl:=toL I;obtain rfl:ae=[]:=X;have z0:w.cell? ⟨b,off+k*2,none⟩=some (.int .i64 q0):=by simpa[Rd.n] using h 0 _ rfl
    replace h:∀j v,_→w.cell? ⟨b,off+k*2+j,none⟩=some v:=h;have z1:=h 1 _ rfl;have ai:=fD m (fM xs[k]) (by omega);clear g3 I h q
    go_wp2_with (go_at_call 9;refine(oN _ _ xs[k] _ _ (Rd.gr V ((Gr.refl w).ext _)) (by omega) (by omega)).mono ?_;rintro e w1 ⟨rfl,y,rfl⟩)
    ·have K:less m (fM xs[k])<0:=by assumption
     go_ret;refine⟨aC ?_,gd⟩;have e:=hm.o;subst e;rw[fE,Nat.add_assoc,←D.o] at K;exact(jV K (Nat.add_le_add_left (gJ fM xs (k+1)) _) h0).symm
    ·have K:0≤less m (fM xs[k]):=by assumption
     refine⟨⟨k+1,_,by omega,K,by omega,Kz ?_,gd,by go_num,rfl⟩,by simp[intOf];omega⟩;rw[D.o,hm.o,fE,Nat.add_assoc]
   ·have ah:k=xs.length:=by omega
    subst ah;have J:=hm.o;rw[List.take_length] at J;have HM:=Kz J;clear J hm
    go_wp2
    go_ret;exact⟨aC HM.o,gd⟩
theorem Tryz.infoInsR:(Tryz.prog.info? 45).map (fun i=>(i.zero,i.size,i.bytes))=some (some (.agg #[.int .i64 0,.string ByteArray.empty]),2,24):=by kernel_rfl
theorem toInsR_any(fp:List Nat)(u:Value)(xs:List av)(w:World)(hu:SlR fp w u xs)(hlen:kP xs≤1048576):
  Calls Tryz.prog 31 #[u] w fun e w'=>∃v fq,e=.returned v∧SlR fq w' v xs∧aY w fq∧Gr w w':=by
 obtain⟨a,ca,rfl,h1,h2,h3⟩:=hu.open;have ax:xs.length≤1048576:=Nat.le_trans (bT fM xs) hlen;obtain⟨i0,hi,O,T,U⟩:=info_parts Tryz.infoInsR;have D:=fun(W:World)=>run_make (P:=Tryz.prog) W 34 45 i0 (.agg #[.int .i64 0,.string ByteArray.empty]) Tryz.underlying34 hi O .i64 .i64 xs.length xs.length (by omega) (by omega) (by rw[U];omega) (by omega)
 rw[T] at D;clear hi O T U;simp only[Int.toNat_natCast] at D;have I:=size_madeCells (Value.agg #[.int .i64 0,.string ByteArray.empty]).cells (xs.length*2);generalize madeCells (Value.agg #[.int .i64 0,.string ByteArray.empty]).cells (xs.length*2)=C0 at D I;have HS:=Kz I;have ah:=Kz hlen;clear I hlen;go_in
 go_wp2
 go_loopw [4] (fun Y wr=>∃(k:Nat) (C:Array Value) (x:Ext) (fps:List (List Nat)),C.size=xs.length*2∧iF w w.heap.size wr C k fps xs∧wr=(w.alloc (.cells C 45)).ext x∧Y=.int .i64 k) (fun Y _=>xs.length - (intOf Y).toNat)
 case atStart=>exact⟨0,C0,⟨#[],0⟩,[],HS.o,iF.start _ _ (Nat.le_refl _) (by simp),(lX _).symm,rfl⟩
 case round=>
  obtain⟨k,C,x,fps,Z,hp,rfl,rfl⟩:=hrel;have ai:=Kz Z;have hk:=hp.le
  by_cases q:k<xs.length
  ·obtain⟨b,off,rfl,hb⟩:=h3 k q
   have V:=dI fM xs q;obtain⟨aj,ak,h,B,-⟩:=hu.at q;have J:=B;generalize xs[k]=yq at B;obtain⟨q0,q1⟩:=yq;obtain⟨K,ae,ay,aZ⟩:=bK (cs:=aj.toArray) q0 q1 (by simpa using B);obtain rfl:=toL K;obtain rfl:ak=[]:=ae;have z0:w.cell? ⟨b,off+k*2,none⟩=some (.int .i64 q0):=by simpa[Rd.n] using h 0 _ rfl
   replace h:∀j v,_→w.cell? ⟨b,off+k*2+j,none⟩=some v:=h;have z1:=h 1 _ rfl;have y0:k*2<C.size:=by omega
   have y1:k*2+1<C.size:=by omega
   have bg:fM xs[k]≤1048576:=Nat.le_trans V ah.o;have X:k*2+2≤C.size:=by omega
   have HD:=Kz X;clear Z h3 K h B V X
   go_wp2_with (go_at_call 13;refine(l6 _ _ xs[k] _ (Rd.gr J gd)).mono ?_;rintro e w1 ⟨rfl,y,rfl⟩)
   rw[iV,←Hu];refine⟨⟨k+1,setRow C (k*2) [.int .i64 q0,.string q1],x.comp y,fps++[[]],?_,?_,rfl,by go_num⟩,by simp[intOf];omega⟩
   ·rw[setRow_size];exact ai.o
   ·refine hp.lT q (C':=setRow C (k*2) [.int .i64 q0,.string q1]) (cs:=[.int .i64 q0,.string q1]) ?_ (aY.nil _) (fun j hj=>jW _ _ _ _ hj) (jS _ _ _ HD.o)
    exact Rd.gr J gd
  ·have au:k=xs.length:=by omega
   subst au;obtain⟨fq,hs,hf⟩:=hp.done (iD _ x) (cap:=xs.length) (Nat.le_refl _) (by unfold bn;omega);have HF:=Kz hs;clear hs Z
   go_wp2
   go_ret;exact⟨_,fq,rfl,HF.o,hf,gd⟩
theorem SlR.boo_at{fp:List Nat}{w:World}{b off len cap:Nat}{xs:List Bool}(h:SlR fp w (.slice (some ⟨b,off,none⟩) len cap) xs){i:Nat}(hi:i<xs.length):w.cell? ⟨b,off+i,none⟩=some (.bool xs[i]):=by
 obtain⟨cs,fq,hc,⟨rfl,rfl⟩,_⟩:=h.at hi;simpa[Rd.n] using hc 0 _ rfl
theorem eqBoolS_any(fp fq:List Nat)(u v:Value)(xs q:List Bool)(w:World)(hu:SlR fp w u xs)(hv:SlR fq w v q):
  Qz 58 #[u,v] w (.bool (decide (xs=q))):=by
 obtain⟨a,ca,rfl,h1,h2,U⟩:=hu.open;obtain⟨c,cc,rfl,g1,g2,g3⟩:=hv.open
 by_cases D:xs.length=q.length
 ·have K:=Kz D
  have V:((xs.length:Int)!=(q.length:Int))=false:=by simp[D]
  clear D;delta Qz;go_in
  go_wp2
  go_loopw [5] (fun O wr=>∃k:Nat,k≤xs.length∧xs.take k=q.take k∧Gr w wr∧O=.int .i64 k) (fun O _=>xs.length - (intOf O).toNat)
  case atStart=>exact⟨0,by omega,rfl,Gr.refl w,rfl⟩
  case round=>
   obtain⟨k,hk,ht,⟨x,rfl⟩,rfl⟩:=hrel
   by_cases I:k<xs.length
   ·have B:k<q.length:=by have:=K.o;omega
    obtain⟨b,off,rfl,hb⟩:=U k I;obtain⟨b',Y,rfl,ae⟩:=g3 k B;have Z:=(hu.boo_at I);have x2:=(hv.boo_at B);have z1:=blk Z;have z2:=blk x2;have hT:=Kz ht;clear U g3 ht;go_wp2_with fail;refine wg ?_
    repeat(go_big_quiet_step (fail))
    refine wq fun nx=>?_
    go_wp2
    ·rename_i T
     go_ret;have J:xs[k]≠q[k]:=by simpa using T
     have E:xs≠q:=fun e=>J (by subst e;rfl)
     exact⟨aa (decide_eq_false E).symm,((Gr.refl w).ext _).ext _⟩
    ·rename_i T
     have J:xs[k]=q[k]:=by simpa using T
     refine⟨⟨k+1,by omega,?_,((Gr.refl w).ext _).ext _,by go_num⟩,by simp[intOf];omega⟩;rw[List.take_succ_eq_append_getElem I,List.take_succ_eq_append_getElem B,hT.o,J]
   ·have X:k=xs.length:=by omega
    subst X
    have e:xs=q:=by
     have h:=ht;have h':=K.o;rw[List.take_length,h',List.take_length] at h;exact h
    have E:=Kz e;clear e ht
    go_wp2
    go_ret;exact⟨aa (decide_eq_true E.o).symm,(Gr.refl w).ext _⟩
 ·have V:((xs.length:Int)!=(q.length:Int))=true:=by simp;omega
  have e:xs≠q:=fun e=>D (by rw[e])
  have E:=Kz e;clear e D;delta Qz;go_in
  go_wp2
  go_ret;exact⟨aa (decide_eq_false E.o).symm,Gr.refl w⟩
def mBool(k:Int)(_:Bool):Bool×Int:=(mbo k,k+1)
theorem mBoolS_eq(xs:List Bool):∀k,(gK mBool k xs).2=k+xs.length:=by
 induction xs with
 |nil=>intro k;simp[gK]
 |cons x xs h=>intro k;simp only[gK,h,mBool,List.length_cons];omega
abbrev mBoolS(k:Int)(x:List Bool):List Bool×Int:=gK mBool k x
theorem mBoolS_bd(k:Int)(x:List Bool):k≤(mBoolS k x).2∧(mBoolS k x).2≤k+16*x.length:=by rw[mBoolS_eq];omega
theorem mBoolS_mono(k:Int)(x:List Bool):k≤(mBoolS k x).2:=(mBoolS_bd k x).1
theorem mBool_mono(k:Int)(x:Bool):k≤(mBool k x).2:=by unfold mBool;simp;omega
theorem markBoolS_any(fp:List Nat)(u:Value)(xs:List Bool)(k:Int)(w:World)(hu:SlR fp w u xs)(V:fp.Nodup)(h0:0<k)(h1:(gK mBool k xs).2≤4398046511104):
  Calls Tryz.prog 60 #[u,.int .i64 k] w fun e w'=>e=.returned (.int .i64 (gK mBool k xs).2)∧SlR fp w' u (gK mBool k xs).1∧Wr fp w w':=by
 obtain⟨a,ca,rfl,g1,g2,g3⟩:=hu.open;have H1:=Kz h1;clear h1;go_in
 go_wp2
 go_loopw [5,1] (fun J s1 wr=>∃(i:Nat) (m:Int),i≤xs.length∧Ky (m=(gK mBool k (xs.take i)).2)∧SlR fp wr (.slice a xs.length ca) (markT mBool k xs i)∧Wr fp w wr∧J=.int .i64 i∧s1=.int .i64 m) (fun J _ _=>xs.length - (intOf J).toNat)
 case atStart=>exact⟨0,k,by omega,Kz (by simp[gK]),by rw[iE];exact hu,Wr.refl _ _,rfl,rfl⟩
 case round=>
  obtain⟨i,m,hi,hm,hs,X,rfl,rfl⟩:=hrel;have K:=Kz hs;have Y:=Kz X;clear hs X
  by_cases h:i<xs.length
  ·obtain⟨b,off,rfl,hb⟩:=g3 i h
   have O:i<(markT mBool k xs i).length:=by rw[iJ];exact h
   obtain⟨cs,fq,hc,hr,-,Z,-,-,hz,q⟩:=K.o.focus V O
   have HP:=Kz q;obtain⟨rfl,rfl⟩:=hr;have z0:wr.cell? ⟨b,off+i,none⟩=some (.bool (markT mBool k xs i)[i]):=by simpa[Rd.n] using hc 0 _ rfl
   have f0:wr.frozen? ⟨b,off+i,none⟩=false:=by simpa[Rd.n] using hz 0 (by simp[Rd.n])
   have T:=dG mBool mBool_mono k xs (i+1);have I:=dG mBool mBool_mono k xs i;rw[dF mBool k xs h,←hm.o] at T;rw[←hm.o] at I;have m0:0<m:=by omega
   have em:(mBool m xs[i]).2=m+1:=rfl;rw[em] at T;have m1:m+1≤4398046511104:=by have:=H1.o;omega
   clear hc hz q T I g3 em
   go_wp2
   refine⟨⟨i+1,m+1,by omega,Kz ?_,?_,Y.o.setCell Z _,by go_num,rfl⟩,by simp[intOf];omega⟩
   ·rw[dF mBool k xs h,←hm.o];rfl
   ·rw[iA mBool k xs h,←hm.o]
    have hF:Foc b (off+i*Rd.n Bool) (Rd.n Bool) [] wr (wr.setCell ⟨b,off+i,none⟩ (.bool (mbo m))):=(Foc.refl _ _ _ _ _).set (by simp[Rd.n]) (by simp[Rd.n]) _;refine HP.o _ [.bool (mbo m)] (mbo m) hF (fun j v U=>?_) ⟨rfl,rfl⟩
    cases j with
    |zero=>simp at U;subst U;simpa[Rd.n] using iY z0
    |succ j=>simp at U
  ·have ae:i=xs.length:=by omega
   subst ae;have B:=K.o;rw[jb] at B;have D:=hm.o;rw[List.take_length] at D;have ah:=Kz B;have ai:=Kz D;clear B D K hm
   go_wp2
   go_ret;exact⟨aC ai.o,ah.o,Y.o⟩
theorem heldBoolS_any(fp:List Nat)(u:Value)(xs:List Bool)(k:Int)(w:World)(hu:SlR fp w u (gK mBool k xs).1)(U:0<k)(h1:(gK mBool k xs).2≤4398046511104):
  Qz 62 #[u,.int .i64 k] w (.int .i64 (gK mBool k xs).2):=by
 obtain⟨a,V,rfl,g1,g2,g3⟩:=hu.open;have H1:=Kz h1;clear h1;rw[jT] at g1 g2 hu ⊢;delta Qz;go_in
 go_wp2
 go_loopw [5,1] (fun J s1 wr=>∃(i:Nat) (m:Int),i≤xs.length∧Ky (m=(gK mBool k (xs.take i)).2)∧Gr w wr∧J=.int .i64 i∧s1=.int .i64 m) (fun J _ _=>xs.length - (intOf J).toNat)
 case atStart=>exact⟨0,k,by omega,Kz (by simp[gK]),Gr.refl _,rfl,rfl⟩
 case round=>
  obtain⟨i,m,hi,hm,⟨x,rfl⟩,rfl,rfl⟩:=hrel
  by_cases h:i<xs.length
  ·have q:i<(gK mBool k xs).1.length:=by rw[jT];exact h
   obtain⟨b,off,rfl,hb⟩:=g3 i q;have z0:=hu.boo_at q;rw[H7 mBool k xs h,←hm.o] at z0;have K:=dG mBool mBool_mono k xs (i+1);have D:=dG mBool mBool_mono k xs i;rw[dF mBool k xs h,←hm.o] at K;rw[←hm.o] at D;have m0:0<m:=by omega
   have em:(mBool m xs[i]).2=m+1:=rfl;have I:(mBool m xs[i]).1=mbo m:=rfl;rw[em] at K;rw[I] at z0;have m1:m+1≤4398046511104:=by have:=H1.o;omega
   clear K D g3 em I
   go_wp2
   refine⟨⟨i+1,m+1,by omega,Kz ?_,gd,by go_num,rfl⟩,by simp[intOf];omega⟩;rw[dF mBool k xs h,←hm.o];rfl
  ·have O:i=xs.length:=by omega
   subst O;have B:=hm.o;rw[List.take_length] at B;have T:=Kz B;clear B hm
   go_wp2
   go_ret;exact⟨aC T.o,gd⟩
abbrev GDemand:=List av×List Int×List Bool×Int×Bool
def wtDemand(x:GDemand):Nat:=kP x.1+x.2.1.length+x.2.2.1.length
instance decDemand:DecidableEq GDemand:=@instDecidableEqProd _ _ _ (@instDecidableEqProd _ _ _ (@instDecidableEqProd _ _ _ (@instDecidableEqProd _ _ _ (inferInstance))))
theorem rdDemand_inv{fp:List Nat}{w:World}{cs:Array Value}(q0:List av)(q1:List Int)(q2:List Bool)(q3:Int)(q4:Bool)(h:Rd.rd (α:=GDemand) fp w cs.toList (q0,q1,q2,q3,q4)):
  ∃q I B J D K,cs=#[q,B,D,.int .i64 q3,.bool q4]∧fp=(I++(J++(K++([]++[]))))∧SlR I w q q0∧SlR J w B q1∧SlR K w D q2∧(Lit.int .i64 q3).wf=true:=by
 generalize O:cs.toList=l at h;obtain⟨_,_,_,_,rfl,rfl,⟨q,rfl,T⟩,⟨_,_,_,_,rfl,rfl,⟨B,rfl,U⟩,⟨_,_,_,_,rfl,rfl,⟨D,rfl,V⟩,⟨_,_,_,_,rfl,rfl,⟨rfl,rfl,X⟩,⟨rfl,rfl⟩⟩⟩⟩⟩:=h;exact⟨_,_,_,_,_,_,Array.toList_inj.1 (by simpa using O),rfl,T,U,V,X⟩
theorem rdDemand_shape{fp:List Nat}{w:World}{cs:Array Value}{x:GDemand}(h:Rd.rd (α:=GDemand) fp w cs.toList x):
  ∃q O B D T I J U K q3 q4,cs=#[.slice q O B,.slice D T I,.slice J U K,.int .i64 q3,.bool q4]:=by
 obtain⟨q0,q1,q2,q3,q4⟩:=x;obtain⟨Z,ae,ah,ai,aj,ak,rfl,-,V,X,Y,-⟩:=rdDemand_inv q0 q1 q2 q3 q4 h;obtain⟨q,B,rfl,-,-,-⟩:=V.open;obtain⟨D,I,rfl,-,-,-⟩:=X.open;obtain⟨J,K,rfl,-,-,-⟩:=Y.open;exact⟨_,_,_,_,_,_,_,_,_,_,_,rfl⟩
theorem rdDemand_mk{w:World}(q0:List av)(q1:List Int)(q2:List Bool)(q3:Int)(q4:Bool){h:Value}{q:List Nat}{B:Value}{D:List Nat}{I:Value}{J:List Nat}(K:SlR q w h q0)(O:SlR D w B q1)(T:SlR J w I q2)(U:(Lit.int .i64 q3).wf=true):
  Rd.rd (α:=GDemand) ((q++(D++(J++([]++[]))))) w [h,B,I,.int .i64 q3,.bool q4] (q0,q1,q2,q3,q4):=⟨_,_,_,_,rfl,rfl,⟨_,rfl,K⟩,⟨_,_,_,_,rfl,rfl,⟨_,rfl,O⟩,⟨_,_,_,_,rfl,rfl,⟨_,rfl,T⟩,⟨_,_,_,_,rfl,rfl,⟨rfl,rfl,U⟩,⟨rfl,rfl⟩⟩⟩⟩⟩
theorem Demand_ext(q0:List av)(q1:List Int)(q2:List Bool)(q3:Int)(q4:Bool)(h:List av)(q:List Int)(B:List Bool)(D:Int)(I:Bool)(J:q0=h)(K:q1=q)(O:q2=B)(T:q3=D)(U:q4=I):((q0,q1,q2,q3,q4):GDemand)=(h,q,B,D,I):=by
 exact Prod.ext_iff.2 ⟨J,Prod.ext_iff.2 ⟨K,Prod.ext_iff.2 ⟨O,Prod.ext_iff.2 ⟨T,U⟩⟩⟩⟩
theorem eqDemand_any(fp fq:List Nat)(cs X:Array Value)(x y:GDemand)(w:World)(Y:Rd.rd fp w cs.toList x)(Z:Rd.rd fq w X.toList y):
  Qz 26 #[.agg cs,.agg X] w (.bool (decide (x=y))):=by
 obtain⟨q0,q1,q2,q3,q4⟩:=x;obtain⟨h,q,B,D,I⟩:=y;obtain⟨ax,ae,ay,ah,aZ,ai,rfl,-,J,K,O,bg⟩:=rdDemand_inv q0 q1 q2 q3 q4 Y;obtain⟨bq,aj,bB,ak,bH,au,rfl,-,T,U,V,bL⟩:=rdDemand_inv h q B D I Z;obtain⟨bR,bX,rfl,-,-,-⟩:=J.open;obtain⟨cB,cK,rfl,-,-,-⟩:=K.open;obtain⟨cO,dB,rfl,-,-,-⟩:=O.open;obtain⟨dS,dV,rfl,-,-,-⟩:=T.open;obtain⟨fe,fu,rfl,-,-,-⟩:=U.open;obtain⟨gB,gD,rfl,-,-,-⟩:=V.open;clear Y Z;delta Qz;go_in;go_wp2_with fail;refine(kX ae aj _ _ q0 h _ (J.gr gd) (T.gr gd)).mono ?_;rintro e w0 ⟨rfl,x0,rfl⟩;go_wp2_with fail
 ·have ht:(!decide (q0=h))=true:=by assumption
  go_ret;exact⟨aa (decide_eq_false fun e=>iy ht (congrArg (fun z:GDemand=>z.1) e)).symm,gd⟩
 ·skip
  have e0:=Kz (iq (show(!decide (q0=h))=false by assumption));refine(Ed ah ak _ _ q1 q _ (K.gr gd) (U.gr gd)).mono ?_;rintro e w1 ⟨rfl,x1,rfl⟩;go_wp2_with fail
  ·have ht:(!decide (q1=q))=true:=by assumption
   go_ret;exact⟨aa (decide_eq_false fun e=>iy ht (congrArg (fun z:GDemand=>z.2.1) e)).symm,gd⟩
  ·skip
   have e1:=Kz (iq (show(!decide (q1=q))=false by assumption));refine(eqBoolS_any ai au _ _ q2 B _ (O.gr gd) (V.gr gd)).mono ?_;rintro e w2 ⟨rfl,x2,rfl⟩;go_wp2_with fail
   ·have ht:(!decide (q2=B))=true:=by assumption
    go_ret;exact⟨aa (decide_eq_false fun e=>iy ht (congrArg (fun z:GDemand=>z.2.2.1) e)).symm,gd⟩
   ·have ht:(q3 !=D)=true:=by assumption
    go_ret;exact⟨aa (decide_eq_false fun e=>int_ne ht (congrArg (fun z:GDemand=>z.2.2.2.1) e)).symm,gd⟩
   ·have ht:(q4 !=I)=true:=by assumption
    go_ret;exact⟨aa (decide_eq_false fun e=>ET ht (congrArg (fun z:GDemand=>z.2.2.2.2) e)).symm,gd⟩
   ·skip
    have e2:=Kz (iq (show(!decide (q2=B))=false by assumption));have e3:=Kz (int_eq (show(q3 !=D)=false by assumption));have e4:=Kz (Fa (show(q4 !=I)=false by assumption));go_ret;exact⟨aa (decide_eq_true (Demand_ext q0 q1 q2 q3 q4 h q B D I e0.o e1.o e2.o e3.o e4.o)).symm,gd⟩
variable{d:Nat}
noncomputable def demOf(g:af d)(t:List aT)(xs:List av):GDemand:=
 if kT g t=true then match sW g t xs with
  |none=>([],[],[],0,true)
  |some s=>(bU g t,s.vals,s.st.map (fun x=>decide (x=2)),s.steps,false)
 else([],[],[],0,false)
def MadeD(w:World)(y:GDemand)(e:Ending)(w':World):Prop:=∃(es:Array Value) (fq:List Nat),e=.returned (.agg es)∧Rd.rd fq w' es.toList y∧aY w fq∧Gr w w'
theorem Tryz.infoBoolD:(Tryz.prog.info? 4).map (fun i=>(i.zero,i.size,i.bytes))=some (some (.bool false),1,1):=by kernel_rfl
theorem az.pt5{w:World}{b:Nat}{t:TypeId}{a0 a1 a2 a3 a4:Value}(h:az w b t [a0,a1,a2,a3,a4])(v0 v1 v2 v3 v4:Value):az (((((w.setCell ⟨b,0,none⟩ v0).setCell ⟨b,1,none⟩ v1).setCell ⟨b,2,none⟩ v2).setCell ⟨b,3,none⟩ v3).setCell ⟨b,4,none⟩ v4) b t [v0,v1,v2,v3,v4]:=((((h.set 0 v0).set 1 v1).set 2 v2).set 3 v3).set 4 v4
theorem Gr.pt5{w0 w:World}{b:Nat}(h:Gr w0 w)(hb:w0.heap.size≤b)(v0 v1 v2 v3 v4:Value):Gr w0 (((((w.setCell ⟨b,0,none⟩ v0).setCell ⟨b,1,none⟩ v1).setCell ⟨b,2,none⟩ v2).setCell ⟨b,3,none⟩ v3).setCell ⟨b,4,none⟩ v4):=((((h.setCell hb v0).setCell hb v1).setCell hb v2).setCell hb v3).setCell hb v4
theorem Wr.pt5(w:World)(b:Nat)(v0 v1 v2 v3 v4:Value):Wr [b] w (((((w.setCell ⟨b,0,none⟩ v0).setCell ⟨b,1,none⟩ v1).setCell ⟨b,2,none⟩ v2).setCell ⟨b,3,none⟩ v3).setCell ⟨b,4,none⟩ v4):=
 (((((Wr.refl [b] w).setCell (by simp) v0).setCell (by simp) v1).setCell (by simp) v2).setCell (by simp) v3).setCell (by simp) v4
theorem az.bools{w:World}{b:Nat}{t:TypeId}{fl:List Bool}(h:az w b t (fl.map Value.bool))(hn:fl.length≤bn):∃fp,SlR fp w (.slice (some ⟨b,0,none⟩) fl.length fl.length) fl∧(fp=[]∨fp=[b]):=
 SlR.flat h rfl (fun i hi=>⟨.bool fl[i],by simp[hi],rfl,rfl⟩) (Nat.le_refl _) hn
theorem jZ.sl{w:World}{b:Nat}{t:TypeId}{xs:List Int}(h:jZ w b t xs)(hn:xs.length≤bn)(q:∀x∈xs,(Lit.int .i64 x).wf=true):∃fp,SlR fp w (.slice (some ⟨b,0,none⟩) xs.length xs.length) xs∧(fp=[]∨fp=[b]):=
 SlR.flat (show az w b t _ from h) rfl (fun i hi=>⟨.int .i64 xs[i],by simp[hi],rfl,rfl,q _ (List.getElem_mem hi)⟩) (Nat.le_refl _) hn
theorem size_fst{w:World}{n:Nat}(h:n≤w.heap.size):(w.first n).heap.size=n:=by
 simp[World.first];omega
theorem gr_fst{w:World}{n:Nat}(h:n≤w.heap.size):Gr (w.first n) w:=by
 refine Gr.of_below ⟨rfl,rfl,rfl,by rw[size_fst h];exact h,fun b hb=>?_⟩ (Nat.le_refl _)
 rw[size_fst h] at hb;simp[World.first,Array.getElem?_extract];intro hn
 omega
theorem heldIntS_loc(fp:List Nat)(u:Value)(xs:List Int)(k:Int)(w:World)(hu:SlR fp w u (gK nS k xs).1)(U:0<k)(h1:(gK nS k xs).2≤4398046511104):
  Qz 61 #[u,.int .i64 k] w (.int .i64 (gK nS k xs).2):=by
 obtain⟨a,V,rfl,g1,g2,g3⟩:=hu.open;have H1:=Kz h1;clear h1;rw[jT] at g1 g2 hu ⊢;delta Qz;go_in
 go_wp2
 go_loopw [5,1] (fun J s1 wr=>∃(i:Nat) (m:Int),i≤xs.length∧Ky (m=(gK nS k (xs.take i)).2)∧Gr w wr∧J=.int .i64 i∧s1=.int .i64 m) (fun J _ _=>xs.length - (intOf J).toNat)
 case atStart=>exact⟨0,k,by omega,Kz (by simp[gK]),Gr.refl _,rfl,rfl⟩
 case round=>
  obtain⟨i,m,hi,hm,⟨x,rfl⟩,rfl,rfl⟩:=hrel
  by_cases h:i<xs.length
  ·have q:i<(gK nS k xs).1.length:=by rw[jT];exact h
   obtain⟨b,off,rfl,hb⟩:=g3 i q;have z0:=(hu.fQ q).1;rw[H7 nS k xs h,←hm.o] at z0;have K:=dG nS zA k xs (i+1);have D:=dG nS zA k xs i;rw[dF nS k xs h,←hm.o] at K;rw[←hm.o] at D;have m0:0<m:=by omega
   have em:(nS m xs[i]).2=m+1:=rfl;have I:(nS m xs[i]).1=m:=rfl;rw[em] at K;rw[I] at z0;have m1:m+1≤4398046511104:=by have:=H1.o;omega
   clear K D g3 em I
   go_wp2
   refine⟨⟨i+1,m+1,by omega,Kz ?_,gd,by go_num,rfl⟩,by simp[intOf];omega⟩;rw[dF nS k xs h,←hm.o];rfl
  ·have O:i=xs.length:=by omega
   subst O;have B:=hm.o;rw[List.take_length] at B;have T:=Kz B;clear B hm
   go_wp2
   go_ret;exact⟨aC T.o,gd⟩
theorem mInstS_mno(k:Int)(x:List av):k≤(fw k x).2:=(yo k x).1
def vDemand(k:Int):GDemand→GDemand×Int
 |(q0,q1,q2,q3,q4)=>(((fw (k) q0).1,(oq ((fw (k) q0).2) q1).1,(mBoolS ((oq ((fw (k) q0).2) q1).2) q2).1,q3,q4),(mBoolS ((oq ((fw (k) q0).2) q1).2) q2).2)
theorem vDemand_bd(k:Int)(x:GDemand):k≤(vDemand k x).2∧(vDemand k x).2≤k+16*(1+wtDemand x):=by
 obtain⟨q0,q1,q2,q3,q4⟩:=x;have h:=yo (k) q0;have q:=Di ((fw (k) q0).2) q1;have B:=mBoolS_bd ((oq ((fw (k) q0).2) q1).2) q2;have hw:wtDemand (q0,q1,q2,q3,q4)=(kP q0)+(q1.length)+(q2.length):=rfl;simp only[vDemand] at*;omega
theorem markDemand_any(fp:List Nat)(cs:Array Value)(x:GDemand)(k:Int)(w:World)(hx:Rd.rd fp w cs.toList x)(Z:fp.Nodup)(h0:0<k)(h1:(vDemand k x).2≤4398046511104):
  Calls Tryz.prog 27 #[.agg cs,.int .i64 k] w fun e w'=>e=.returned (.int .i64 (vDemand k x).2)∧Rd.rd fp w' cs.toList (vDemand k x).1∧Wr fp w w':=by
 have ae:=Rd.lt hx;obtain⟨q0,q1,q2,q3,q4⟩:=x;obtain⟨ik,q,iw,B,kr,D,rfl,bR,ah,ai,aj,bX⟩:=rdDemand_inv q0 q1 q2 q3 q4 hx;rw[bR] at ae Z hx ⊢;clear bR;have m1:(mBoolS ((oq ((fw (k) q0).2) q1).2) q2).2≤4398046511104:=h1;have N0:(q++(B++(D))).Nodup:=by simpa only[List.nil_append,List.append_nil] using Z
 have L0:∀c∈(q++(B++(D))),c<w.heap.size:=by simpa only[List.nil_append,List.append_nil] using ae
 obtain⟨K,N1,J⟩:=pF N0;obtain⟨uq1,N2,R1⟩:=pF N1;have K:=K;have cO:=Kz (fun c (h:c∈q)=>L0 c (by simp[h]));have uq1:=uq1;have dB:=Kz (fun c (h:c∈B)=>L0 c (by simp[h]));have uq2:=N2;have O:=Kz (fun c (h1:c∈q) (I:c∈B)=>J c h1 (by simp[I]));have T:=Kz (fun c (h1:c∈B) (I:c∈q)=>J c I (by simp[h1]));have U:=Kz (fun c (h1:c∈q) (I:c∈D)=>J c h1 (by simp[I]));have V:=Kz (fun c (h1:c∈D) (I:c∈q)=>J c I (by simp[h1]));have X:=Kz (fun c (h1:c∈B) (I:c∈D)=>R1 c h1 (by simp[I]));have Y:=Kz (fun c (h1:c∈D) (I:c∈B)=>R1 c I (by simp[h1]));have dS:=Kz K;have dV:=Kz uq1;have fe:=Kz uq2;have ku:=mInstS_mno (k) q0;have ky:=DZ ((fw (k) q0).2) q1;have lq:=mBoolS_mono ((oq ((fw (k) q0).2) q1).2) q2;have gB:=Kz ah;obtain⟨gD,gF,rfl,-,-,-⟩:=ah.open;have gT:=Kz ai;obtain⟨cB,cK,rfl,-,-,-⟩:=ai.open;have gV:=Kz aj;obtain⟨ak,au,rfl,-,-,-⟩:=aj.open;have gX:=Kz bX;clear hx ae h1 Z L0 bX ah ai aj K uq1 uq2 J R1 N0;go_in;go_wp2_with fail;refine(qR q _ q0 (k) _ (gB.o.gr gd) dS.o (by omega) (by show(fw (k) q0).2≤_;omega)).mono ?_;rintro e y0 ⟨rfl,t0,r0⟩;have T0:=Kz t0;have J:=Kz r0;clear t0 r0;have W0:=Kz ((Gr.eF (by exact gd:Gr w (w.alloc (.cells #[.slice gD q0.length gF,.slice cB q1.length cK,.slice ak q2.length au,.int .i64 q3,.bool q4] 57))) (q++(B++(D)))).trans (J.o.sub (fun c hc=>by simp[hc])));have aZ:=Kz (SlR.wr (gT.o.gr gd) J.o T.o);have bg:=Kz (SlR.wr (gV.o.gr gd) J.o V.o);have e0:=J.o.block w.heap.size (by simp) (fun h=>Nat.lt_irrefl _ (cO.o _ h));have c0:=fun(o:Nat)=>World.cell?_of_block (a:=⟨w.heap.size,o,none⟩) e0
 have ax:y0.cell? ⟨w.heap.size,1,none⟩=some (.slice cB q1.length cK):=(c0 _).trans (aJ rfl rfl);have ay:y0.cell? ⟨w.heap.size,2,none⟩=some (.slice ak q2.length au):=(c0 _).trans (aJ rfl rfl);have s0:=blk ax;clear e0 c0;go_wp2_with fail;refine(A8 B _ q1 ((fw (k) q0).2) _ aZ.o dV.o (by omega) (by show(oq ((fw (k) q0).2) q1).2≤_;omega)).mono ?_;rintro e y1 ⟨rfl,t1,r1⟩;have T1:=Kz t1;have R1:=Kz r1;clear t1 r1;rw[show(gK nS ((fw (k) q0).2) q1).2=(oq ((fw (k) q0).2) q1).2 from rfl];have W1:=Kz (W0.o.trans (R1.o.sub (fun c hc=>by simp[hc])));have bq:=Kz (SlR.wr T0.o R1.o O.o);have bB:=Kz (SlR.wr bg.o R1.o Y.o);have e1:=R1.o.block w.heap.size s0 (fun h=>Nat.lt_irrefl _ (dB.o _ h));have c1:=fun(o:Nat)=>World.cell?_of_block (a:=⟨w.heap.size,o,none⟩) e1
 have fu:y1.cell? ⟨w.heap.size,2,none⟩=some (.slice ak q2.length au):=(c1 _).trans ay;have s1:=blk fu;clear e1 c1 ax ay;go_wp2_with fail;refine(markBoolS_any D _ q2 ((oq ((fw (k) q0).2) q1).2) _ bB.o fe.o (by omega) (by show(mBoolS ((oq ((fw (k) q0).2) q1).2) q2).2≤_;omega)).mono ?_;rintro e y2 ⟨rfl,t2,r2⟩;have T2:=Kz t2;have R2:=Kz r2;clear t2 r2;have W2:=Kz (W1.o.trans (R2.o.sub (fun c hc=>by simp[hc])));have bH:=Kz (SlR.wr bq.o R2.o U.o);have bL:=Kz (SlR.wr T1.o R2.o X.o);go_wp2_with fail;go_ret;refine⟨rfl,?_,W2.o.sub (fun c hc=>by simpa using hc)⟩;have hl:=rdDemand_mk ((fw (k) q0).1) ((oq ((fw (k) q0).2) q1).1) ((mBoolS ((oq ((fw (k) q0).2) q1).2) q2).1) (q3) (q4) bH.o bL.o T2.o gX.o;exact hl
theorem heldDemand_any(fp:List Nat)(cs:Array Value)(x:GDemand)(k:Int)(w:World)(D:Rd.rd fp w cs.toList (vDemand k x).1)(h0:0<k)(h1:(vDemand k x).2≤4398046511104):
  Qz 28 #[.agg cs,.int .i64 k] w (.int .i64 (vDemand k x).2):=by
 obtain⟨q0,q1,q2,q3,q4⟩:=x;obtain⟨X,I,Y,J,Z,K,rfl,-,h,q,B,-⟩:=rdDemand_inv ((fw (k) q0).1) ((oq ((fw (k) q0).2) q1).1) ((mBoolS ((oq ((fw (k) q0).2) q1).2) q2).1) (q3) (q4) D;have m1:(mBoolS ((oq ((fw (k) q0).2) q1).2) q2).2≤4398046511104:=h1;have ae:=mInstS_mno (k) q0;have ah:=DZ ((fw (k) q0).2) q1;have ai:=mBoolS_mono ((oq ((fw (k) q0).2) q1).2) q2;have O:=Kz h;obtain⟨aj,ak,rfl,-,-,-⟩:=h.open;have T:=Kz q;obtain⟨au,ax,rfl,-,-,-⟩:=q.open;have U:=Kz B;obtain⟨ay,aZ,rfl,-,-,-⟩:=B.open;clear D h1 h q B;delta Qz;go_in;go_wp2_with fail;refine(mr I _ q0 (k) _ (O.o.gr gd) (by omega) (by show(fw (k) q0).2≤_;omega)).mono ?_;rintro e w0 ⟨rfl,x0,rfl⟩;have bg:0≤(fw (k) q0).2:=by omega
 go_wp2_with fail;refine(heldIntS_loc J _ q1 ((fw (k) q0).2) _ (T.o.gr gd) (by omega) (by show(oq ((fw (k) q0).2) q1).2≤_;omega)).mono ?_;rintro e w1 ⟨rfl,x1,rfl⟩;have bq:0≤(oq ((fw (k) q0).2) q1).2:=by omega
 rw[show(gK nS ((fw (k) q0).2) q1).2=(oq ((fw (k) q0).2) q1).2 from rfl];go_wp2_with fail;refine(heldBoolS_any K _ q2 ((oq ((fw (k) q0).2) q1).2) _ (U.o.gr gd) (by omega) (by show(mBoolS ((oq ((fw (k) q0).2) q1).2) q2).2≤_;omega)).mono ?_;rintro e w2 ⟨rfl,x2,rfl⟩
 have V:0≤(gK mBool ((oq ((fw (k) q0).2) q1).2) q2).2:=by
  show 0≤(mBoolS ((oq ((fw (k) q0).2) q1).2) q2).2
  omega
 have bB:decide ((gK mBool ((oq ((fw (k) q0).2) q1).2) q2).2<0)=false:=by simpa using V
 go_wp2_with fail;go_ret;exact⟨rfl,gd⟩
end Go.Proofs.YtleafadpfeibfaaGreat
namespace Go.Proofs.YtleafadpfeibfaaGreat.fnExactRunDemand
open Go.ChangeShapes Go.WideShapes Go.RowKit
theorem JA:(laidOutB Tryz.pinned.checked.prog)=true:=by kernel_rfl
theorem FQ:((Rows.fnExactRunDemandRow.inPlace==Tryz.pinned.checked.prog.inPlace 6))=true:=by kernel_rfl
end Go.Proofs.YtleafadpfeibfaaGreat.fnExactRunDemand
namespace Go.Proofs.YtleafadpfeibfaaGreat.fnExactRunDemand
open Go.ChangeShapes Go.WideShapes Go.RowKit
theorem J3:((Rows.fnExactRunDemandRow.unfollowed==Tryz.pinned.checked.prog.unfollowed 6))=true:=by kernel_rfl
theorem Kc:((Rows.fnExactRunDemandRow.recurses==Tryz.pinned.checked.prog.recurses 6))=true:=by kernel_rfl
end Go.Proofs.YtleafadpfeibfaaGreat.fnExactRunDemand
namespace Go.Proofs.YtleafadpfeibfaaGreat.fnExactRunDemand
open Go.ChangeShapes Go.WideShapes Go.RowKit
theorem Ko:((Rows.fnExactRunDemandRow.named==Tryz.pinned.checked.prog.varsNamed 6))=true:=by kernel_rfl
theorem JG:(mapsRowed Tryz.pinned.checked.prog)=true:=by kernel_rfl
theorem JK:(Tryz.f6.params.all (Tryz.pinned.checked.prog.readableRec ·))=true:=by kernel_rfl
theorem IW:(namedTie Tryz.pinned.checked.prog Rows.fnExactRunDemandRow.named Rows.fnExactRunDemandSpec.vars)=true:=by kernel_rfl
theorem IA:((Tryz.pinned.checked.prog.stops==[]))=true:=by kernel_rfl
theorem IZ:((Tryz.pinned.checked.prog.stopKnobs==[]))=true:=by kernel_rfl
end Go.Proofs.YtleafadpfeibfaaGreat.fnExactRunDemand
