/- Contracts and laws towards ReadsOf, part 29 of 54. No condition. -/
import Derived.Test.YtleafadpfeibfaaGreatRx28
set_option maxHeartbeats 32000000
set_option maxRecDepth 10000
set_option linter.unusedVariables false
set_option linter.unusedSimpArgs false
namespace Go.Proofs.YtleafadpfeibfaaGreat
open Go.RowKit
open _root_.List (flatten_append mem_append take_length)
variable{d:Nat}
variable{fx fr fg:List Nat}{cx cr cg:Array Value}{n:Nat}
def Ir(x y:ag):Bool:=decide (x.1<y.1)||(decide (x.1=y.1)&&Op.bytesLess x.2.toList y.2.toList)
theorem Bn{O:List Nat}{B:Array Value}(x y:ag)(w:World)(D:Rd.rd fx w cx.toList x)(I:Rd.rd O w B.toList y):Qz 301 #[.agg cx,.agg B] w (.bool (Ir x y)):=by
 obtain⟨J,T,rfl,rfl,-,V,X⟩:=KT D;clear D;obtain⟨K,U,rfl,rfl,-,Y,Z⟩:=KT I;clear I;obtain⟨R,q⟩:=nm (Ir (J,T) (K,U));rw[←q];have h:=Kz q;clear q;delta Qz;go_in;go_wp2_with fail
 go_ways
 all_goals
  go_ret;refine⟨aa ?_,gd⟩;rw[h.o];unfold Ir;clear h
  first|(simp_all;done)|(simp_all;omega)|(have h1:¬(J<K):=(by omega);simp_all)
theorem SlR.suf{α:Type}[Rd α]{fp:List Nat}{w:World}{b off len cap:Nat}{xs:List α}(h:SlR fp w (.slice (some ⟨b,off,none⟩) len cap) xs){k:Nat}(hk:k≤xs.length)(hp:0<Rd.n α):∃fq,SlR fq w (.slice (some ⟨b,off+k*Rd.n α,none⟩) (len - k) (cap - k)) (xs.drop k)∧∀c∈fq,c∈fp:=by
 obtain⟨a',K,hv,h1,h2,O⟩:=h;injection hv with B T U;subst U;subst T;have q:(xs.drop k).length=xs.length - k:=by simp
 by_cases D:k=xs.length
 ·subst D
  exact⟨[],⟨some ⟨b,off+xs.length*Rd.n α,none⟩,cap - xs.length,by simp,by simp,by simp,.inl ⟨by simp,rfl⟩⟩,by simp⟩
 ·rcases O with⟨V,ae⟩|⟨b',X,fps,ah,Y,rfl,hlen,I,Z⟩
  ·subst V
   simp at hk D;omega
  ·rw[Y] at B
   injection B with B;injection B with e4 e5;subst e4 e5;refine⟨b::(fps.drop k).flatten,⟨some ⟨b,off+k*Rd.n α,none⟩,cap - k,by rw[q],by rw[q];omega,by rw[q];omega,.inr ⟨b,off+k*Rd.n α,fps.drop k,fun e=>by rw[e] at q;simp at q;omega,rfl,rfl,by simp[hlen],fun j hj=>?_,fun i hi ai=>?_⟩⟩,fun c hc=>?_⟩
   ·rw[q,Nat.sub_mul] at hj
    have:=Nat.mul_le_mul_right (Rd.n α) hk;rw[Nat.add_assoc];exact I _ (by omega)
   ·rw[q] at hi
    obtain⟨cs,hc,hr⟩:=Z (k+i) (by omega) (by omega);exact⟨cs,by rw[Nat.add_assoc,←Nat.add_mul];exact hc,by simpa using hr⟩
   ·rcases List.mem_cons.1 hc with h|h
    ·rw[h];simp
    ·obtain⟨f,hf,J⟩:=List.mem_flatten.1 h
     exact List.mem_cons_of_mem _ (List.mem_flatten.2 ⟨f,List.mem_of_mem_drop hf,J⟩)
def J7(fp:List Nat)(xs:List ag)(o:ag)(w:World)(e:Ending)(w':World):Prop:=
 ∃(u:Value) (fq:List Nat) (h:List ag),e=.returned u∧SlR fq w' u h∧(∀z,z∈h↔z∈xs∨z=o)∧h.length≤xs.length+1∧Gr w w'
theorem Iu{xs:List ag}{k:Nat}{o z:ag}:z∈[]++xs.take k++[o]++xs.drop k↔z∈xs∨z=o:=by
 have h:=List.take_append_drop k xs;constructor
 ·intro hm
  simp only[List.nil_append,mem_append,List.mem_singleton] at hm;rcases hm with(hm|hm)|hm
  ·exact .inl (List.mem_of_mem_take hm)
  ·exact .inr hm
  ·exact .inl (List.mem_of_mem_drop hm)
 ·intro hm
  simp only[List.nil_append,mem_append,List.mem_singleton];rcases hm with hm|hm
  ·rw[←h,mem_append] at hm
   exact hm.elim (fun h=>.inl (.inl h)) .inr
  ·exact .inl (.inr hm)
theorem wy:oM ag:=mU nK nI
theorem FZ{fp fo:List Nat}{u:Value}{co:Array Value}(xs:List ag)(o:ag)(w:World)(hx:SlR fp w u xs)(ho:Rd.rd fo w co.toList o)(gF:xs.length≤2097152):
  Calls Tryz.prog 292 #[u,.agg co] w (J7 fp xs o w):=by
 obtain⟨i0,hi⟩:=info_parts Tryz.nX;have q:=Kz hi;clear hi;have HX:=Kz hx;obtain⟨ax,kx,rfl,gT,gV,dV⟩:=hx.open;obtain⟨I,T,rfl,rfl,-,bX,cB⟩:=KT ho;clear ho;have aZ:=Kz (fun W=>bO (w:=W) I T bX cB);clear hx bX cB;go_in;go_wp2_with fail;generalize hB:(w.alloc (.cells #[.int .i64 I,.string T] 181))=B;have gB:Gr w B:=gb hB;obtain⟨ai,aj⟩:=kb2 hB (w.heap.size) (.int .i64 I) (.string T);clear hB
 go_loopw [5] (fun s5 wr=>∃k:Nat,k≤xs.length∧Ky (Gr B wr)∧s5=.int .i64 k) (fun s5 _=>xs.length - (intOf s5).toNat)
 case atStart=>exact⟨0,by omega,Kz (Gr.refl _),rfl⟩
 case round=>
  obtain⟨k,hk,HG,rfl⟩:=hrel
  rename World=>W1
  have Z:=Kz (gB.trans HG.o);have J:=ai _ HG.o;have y1:=aj _ HG.o;have zy:=blk J
  by_cases bg:k<xs.length
  ·obtain⟨b,off,rfl,hb⟩:=dV k bg
   obtain⟨p0,p1,cK,cO,fe,fu,z0,z1,zb⟩:=Le HX.o bg Z.o;have k0:(0:Int)≤(k:Int):=by omega
   have k1:(k:Int)<(xs.length:Int):=by omega
   have iw:=zI1 k (by omega);clear fe fu;obtain⟨M,hM⟩:=nm (Ir (p0,p1) (I,T));have HM:=Kz hM;clear hM;go_wp2_with fail;refine wg ?_
   repeat(go_big_quiet_step ((go_at_call 301;refine aG (Bn (p0,p1) (I,T) _ (Rd.gr cO.o ?_) (aZ.o _))<;>exact Z.o.trans gd)))
   refine wq fun nx=>?_
   rw[←HM.o]
   cases M with
   |true=>
    go_wp2_with fail;exact⟨⟨k+1,by omega,Kz (tg HG),by go_num⟩,by simp[intOf];omega⟩
   |false=>
    obtain⟨W2,bq⟩:=nm (W1.ext nx);have g2:Gr W1 W2:=by rw[bq];exact gd
    rw[←bq];replace J:=g2.keep J;replace y1:=g2.keep y1;replace zy:=blk J;replace z0:=g2.keep z0;replace z1:=g2.keep z1;replace zb:=blk z0;clear bq
    have bR:(p0=I∧p1=T)∨(p0≠I)∨(p0=I∧p1.toList≠T.toList):=
     (Classical.em (p0=I)).elim (fun t0=>(Classical.em (p1=T)).elim (fun t1=>.inl ⟨t0,t1⟩) (fun t1=>.inr (.inr ⟨t0,fun e=>t1 (str_inj e)⟩))) (fun t0=>.inr (.inl t0))
    rcases bR with⟨rfl,rfl⟩|e|⟨e0,e⟩
    ·have HF:=Kz (show(p0,p1)∈xs from by rw[cK.o];exact List.getElem_mem bg)
     go_wp2_with fail
     go_region
     all_goals
      go_wp2_with fail;go_ret;exact⟨_,fp,xs,rfl,HX.o.gr (Z.o.trans (g2.trans gd)),fun z=>⟨.inl,fun h=>h.elim id fun e=>by rw[e];exact HF.o⟩,by omega,Z.o.trans (g2.trans gd)⟩
    all_goals
     try(have e1:=Eq.symm e0;subst e1)
     go_wp2_with fail
     go_region
     all_goals
      clear z0 z1 zb J y1 zy HM cK cO;replace g2:Gr W1 W2.drew:=g2.trans gd;generalize W2.drew=W3 at g2 ⊢;clear W2;have V:=Z.o.trans g2;have K:=Kz (HG.o.trans g2);have J:=ai _ K.o;have y1:=aj _ K.o;have zy:=blk J;obtain⟨gD,X,-⟩:=HX.o.pre hk;obtain⟨ak,hsrc,-,-⟩:=eT.qL (X.gr V);have bB:=Kz hsrc;have au:=Kz (eT.flat wy hsrc);clear X hsrc g2 V
      go_upto_region 7 with(first|(at_builtin;refine bP (α:=ag) (w0:=B) (tg K) rfl _ _ 254 rfl 181 i0 _ _ Tryz.underlying254 q.o.1 q.o.2.1 q.o.2.2.1 q.o.2.2.2 rfl _ [] [] (by rfl) (bE.kF (α:=ag) (w0:=B) 181 K.o.size (by first|rfl|omega|(simp;done))) _ ak (xs.take k) (by rfl) (bB.o.gr gd) (fun b _=>by rw[au.o];simp) (by unfold maxLen;simp;omega) (by simp;omega) ?_;intro v3 w3 h1 h2 h3 Y;replace h1:=Kz h1;replace Y:=Kz Y;clear h2 h3))
      obtain⟨ra,rc,D⟩:=h1.o.form;subst D;have J:=ai _ Y.o;have y1:=aj _ Y.o;have zy:=blk J
      go_upto_region 8 with(first|(at_builtin;refine bP (α:=ag) (w0:=B) (tg Y) rfl _ _ 254 rfl 181 i0 _ _ Tryz.underlying254 q.o.1 q.o.2.1 q.o.2.2.1 q.o.2.2.2 rfl _ ([]++ak) ([]++xs.take k) (by rfl) (h1.o.gr gd) _ [[]] [(I,T)] (by rfl) (eT.one (by simp) (aZ.o _)) (fun b _=>by simp) (by unfold maxLen;simp;omega) (by simp;omega) ?_;intro v5 w5 h5 h6 h7 h8;replace h5:=Kz h5;replace h8:=Kz h8;clear h6 h7))
      obtain⟨rb,rd,D⟩:=h5.o.form;subst D;have h9:=gB.trans h8.o;obtain⟨gX,bH,-⟩:=HX.o.suf hk (by decide);obtain⟨U,ae,-,-⟩:=eT.qL (bH.gr h9);have bL:=Kz ae;have ay:=Kz (eT.flat wy ae);have ah:=Kz (fun z=>Iu (xs:=xs) (k:=k) (o:=(I,T)) (z:=z));clear bH ae;have O:(xs.drop k).length≤2097152:=by(try rw[List.length_drop])<;>(try simp)<;>omega
      go_wp2_with (first|(at_builtin;refine bP (α:=ag) (w0:=B) (tg h8) rfl _ _ 254 rfl 181 i0 _ _ Tryz.underlying254 q.o.1 q.o.2.1 q.o.2.2.1 q.o.2.2.2 rfl _ _ _ (by rfl) (h5.o.gr gd) _ U (xs.drop k) (by rfl) (bL.o.gr gd) (fun b _=>by rw[ay.o];simp) (by unfold maxLen;simp at O ⊢;omega) (by simp at O ⊢;omega) ?_;intro v7 w7 k1 k2 k3 k4;replace k1:=Kz k1;replace k4:=Kz k4;clear k2 k3))
      all_goals
       obtain⟨fz,hz,-⟩:=k1.o.fresh (by simp at O ⊢;unfold bn;omega) (by rw[flatten_append,flatten_append,flatten_append,au.o,ay.o];exact aY.nil _);go_ret;exact⟨_,fz,_,rfl,hz,ah.o,by simp at O ⊢;omega,gB.trans k4.o⟩
  ·have dB:k=xs.length:=by omega
   have iw:=zI1 k (by omega);have dS:=Kz dB;clear dB;go_wp2_with fail
   go_region
   all_goals
    go_wp2_with fail
    go_region
    all_goals
     clear J y1 zy;have g2:Gr W1 W1.drew.drew:=gd;generalize W1.drew.drew=W3 at g2 ⊢
     cases ax
     all_goals
      have V:=Z.o.trans g2;have K:=Kz (HG.o.trans g2);have J:=ai _ K.o;have y1:=aj _ K.o;have zy:=blk J;obtain⟨gD,X,-⟩:=HX.o.pre hk;obtain⟨ak,hsrc,-,-⟩:=eT.qL (X.gr V);have bB:=Kz hsrc;have au:=Kz (eT.flat wy hsrc);clear X hsrc g2 V
      go_upto_region 7 with(first|(at_builtin;refine bP (α:=ag) (w0:=B) (tg K) rfl _ _ 254 rfl 181 i0 _ _ Tryz.underlying254 q.o.1 q.o.2.1 q.o.2.2.1 q.o.2.2.2 rfl _ [] [] (by rfl) (bE.kF (α:=ag) (w0:=B) 181 K.o.size (by first|rfl|omega|(simp;done))) _ ak (xs.take k) (by rfl) (bB.o.gr gd) (fun b _=>by rw[au.o];simp) (by unfold maxLen;simp;omega) (by simp;omega) ?_;intro v3 w3 h1 h2 h3 Y;replace h1:=Kz h1;replace Y:=Kz Y;clear h2 h3))
      obtain⟨ra,rc,D⟩:=h1.o.form;subst D;have J:=ai _ Y.o;have y1:=aj _ Y.o;have zy:=blk J
      go_upto_region 8 with(first|(at_builtin;refine bP (α:=ag) (w0:=B) (tg Y) rfl _ _ 254 rfl 181 i0 _ _ Tryz.underlying254 q.o.1 q.o.2.1 q.o.2.2.1 q.o.2.2.2 rfl _ ([]++ak) ([]++xs.take k) (by rfl) (h1.o.gr gd) _ [[]] [(I,T)] (by rfl) (eT.one (by simp) (aZ.o _)) (fun b _=>by simp) (by unfold maxLen;simp;omega) (by simp;omega) ?_;intro v5 w5 h5 h6 h7 h8;replace h5:=Kz h5;replace h8:=Kz h8;clear h6 h7))
      obtain⟨rb,rd,D⟩:=h5.o.form;subst D;have h9:=gB.trans h8.o;obtain⟨U,ay,bL,ah⟩:∃U:List (List Nat),Ky (U.flatten=[])∧Ky (∀a n c,n=0→eT (α:=ag) w5 (.slice a n c) U [])∧Ky (∀z:ag,z∈[]++xs.take k++[(I,T)]++[]↔z∈xs∨z=(I,T)):=⟨[],Kz rfl,Kz fun a n c h0=>.inl ⟨rfl,rfl,a,c,by rw[h0]⟩,Kz (by rw[dS.o,take_length];simp)⟩;have O:(([]:List ag)).length≤2097152:=by(try rw[List.length_drop])<;>(try simp)<;>omega
      go_wp2_with (first|(at_builtin;refine bP (α:=ag) (w0:=B) (tg h8) rfl _ _ 254 rfl 181 i0 _ _ Tryz.underlying254 q.o.1 q.o.2.1 q.o.2.2.1 q.o.2.2.2 rfl _ _ _ (by rfl) (h5.o.gr gd) _ U (([]:List ag)) (by rfl) ((bL.o _ _ _ (by have h0:=dS.o;omega)).gr gd) (fun b _=>by rw[ay.o];simp) (by unfold maxLen;simp at O ⊢;omega) (by simp at O ⊢;omega) ?_;intro v7 w7 k1 k2 k3 k4;replace k1:=Kz k1;replace k4:=Kz k4;clear k2 k3))
      all_goals
       obtain⟨fz,hz,-⟩:=k1.o.fresh (by simp at O ⊢;unfold bn;omega) (by rw[flatten_append,flatten_append,flatten_append,au.o,ay.o];exact aY.nil _);go_ret;exact⟨_,fz,_,rfl,hz,ah.o,by simp at O ⊢;omega,gB.trans k4.o⟩
def Gq(us:List ag)(n:Nat)(xs:List ag)(w:World)(e:Ending)(w':World):Prop:=
 ∃(u:Value) (fq:List Nat) (h:List ag),e=.returned u∧SlR fq w' u h∧(∀z,z∈h↔z∈xs∨z∈us)∧h.length≤xs.length+n∧Gr w w'
theorem wW{q0 q1 q2 q3:Int}{q4 q5:ByteArray}{q6:List (GE d)}:gP (d+1) ((q0,q1,q2,q3,q4,q5,q6):aA d)=(if q0=3 then[(q2,q5)] else[])++q6.flatMap (gP d):=rfl
theorem uI(hE:∀(fp fu:List Nat) (cs:Array Value) (u:Value) (x:GE d) (xs:List ag) (w:World) (hx:Rd.rd fp w cs.toList x) (hu:SlR fu w u xs) (hl:xs.length+cZ d x≤2097152),Calls Tryz.prog 275 #[.agg cs,u] w (Gq (gP d x) (cZ d x) xs w))
  (fp fu:List Nat) (cs:Array Value) (u:Value) (x:aA d) (xs:List ag) (w:World) (hx:Rd.rd fp w cs.toList x) (hu:SlR fu w u xs) (hl:xs.length+cZ (d+1) x≤2097152):Calls Tryz.prog 275 #[.agg cs,u] w (Gq (gP (d+1) x) (cZ (d+1) x) xs w):=by
 obtain⟨q0,q1,q2,q3,q4,q5,q6,ae,ah,sO,rfl,rfl,-,uf,uo,gT,uq,uz,gV,fe,q8,q9⟩:=KU hx;have X:=fe.op3;have gD:=Kz fe;clear hx;rw[wE] at hl ⊢;rw[wW];have HU:=Kz hu;obtain⟨au,ku,rfl,-,-,-⟩:=hu.open;clear hu
 by_cases V:q0=3
 ·have gX:(q0==3)=true:=by simp[V]
  rw[if_pos V];have ik:=Kz (fun W=>bO (w:=W) q2 q5 gT gV);clear V;go_in;go_wp2_with fail;refine(FZ xs (q2,q5) _ (HU.o.gr gd) (ik.o _) (by omega)).mono ?_;rintro e w' ⟨u2,kr,D,rfl,aj,gF,u6,x1,rfl⟩;generalize O:(w.alloc (.cells #[.int .i64 q0,.int .i64 q1,.int .i64 q2,.int .i64 q3,.string q4,.string q5,.slice ae q6.length ah] 165)).ext x1=B at aj ⊢;have gB:Gr w B:=gb O;have hv:az B w.heap.size 165 [.int .i64 q0,.int .i64 q1,.int .i64 q2,.int .i64 q3,.string q4,.string q5,.slice ae q6.length ah]:=by rw[←O];exact(az.new (A:=w) rfl).gr gd
  have ai:=Kz gB;have I:=Kz (And.intro (hv.c 0) (And.intro (hv.c 1) (And.intro (hv.c 2) (And.intro (hv.c 3) (And.intro (hv.c 4) (And.intro (hv.c 5) (hv.c 6)))))));have lq:=Kz aj;have oH:=Kz gF;clear O gB hv aj gF;go_wp2_with fail
  go_loopw [5,1] (fun s5 s1 wr=>∃(k:Nat) (fy:List Nat) (D:List ag),k≤q6.length∧Ky (Gr B wr)∧Ky (SlR fy wr s1 D)∧Ky (∀z,z∈D↔z∈xs∨z∈[(q2,q5)]++(q6.take k).flatMap (gP d))∧Ky (D.length≤xs.length+1+((q6.take k).map (cZ d)).sum)∧s5=.int .i64 k) (fun s5 _ _=>q6.length - (intOf s5).toNat)
  case atStart=>exact⟨0,kr,D,by omega,Kz (Gr.refl _),lq,Kz (fun z=>by rw[oH.o z];simp),Kz (by simp;omega),rfl⟩
  case round=>
   obtain⟨k,fy,D,hk,q,T,HM,J,rfl⟩:=hrel
   rename World=>W1
   obtain⟨ay,ky,rfl,-,-,-⟩:=T.o.open;have y0:=q.o.keep I.o.1;have y1:=q.o.keep I.o.2.1;have y2:=q.o.keep I.o.2.2.1;have y3:=q.o.keep I.o.2.2.2.1;have y4:=q.o.keep I.o.2.2.2.2.1;have y5:=q.o.keep I.o.2.2.2.2.2.1;have y6:=q.o.keep I.o.2.2.2.2.2.2;have U:=Kz (ai.o.trans q.o)
   by_cases K:k<q6.length
   ·have Y:=Kz (lI (cZ d) q6 K)
    have ak:=Kz (nu (cZ d) q6 (k+1));have ax:=Kz (show(q6.take (k+1)).flatMap (gP d)=(q6.take k).flatMap (gP d)++gP d q6[k] by rw[List.take_succ_eq_append_getElem K,List.flatMap_append,List.flatMap_singleton]);have aZ:=Kz (show D.length+cZ d q6[k]≤2097152 by have h1:=J.o;have h2:=Y.o;have V:=ak.o;omega)
    obtain⟨d1,rfl⟩:∃e,d=e+1:=by
     cases d with
     |zero=>exact PEmpty.elim (q6[k])
     |succ e=>exact⟨e,rfl⟩
    obtain⟨b,off,rfl,hb⟩:=X k K;obtain⟨p0,p1,p2,p3,p4,p5,p6,oL,o5,o9,qb,bg,bq,bB,bH,bL,bR,bX,cB,cK,-,-,z0,z1,z2,z3,z4,z5,z6,zb⟩:=Lc gD.o K U.o;have k0:(0:Int)≤(k:Int):=by omega
    have k1:(k:Int)<(q6.length:Int):=by omega
    have iw:=zI1 k (by omega);clear X bB bH bL bR bX cB cK;go_wp2_with fail;refine(hE _ _ _ _ q6[k] D _ (Rd.gr (by rw[←bg.o];exact bq.o) U.o) T.o aZ.o).mono ?_;rintro e w' ⟨v,fz,zs,rfl,hz,hm,Z,g2⟩;have cO:=Kz hz;have dB:=Kz hm;have dS:=Kz Z;have dV:=Kz g2;clear hz hm Z g2;go_wp2_with fail;refine⟨⟨k+1,fz,zs,by omega,Kz (q.o.trans dV.o),cO,Kz fun z=>?_,Kz (by have h1:=dS.o;have h2:=J.o;have V:=Y.o;omega),by go_num⟩,by simp[intOf];omega⟩;rw[dB.o z,HM.o z,ax.o];simp only[mem_append];constructor
    ·rintro((h|h|h)|h)
     ·exact .inl h
     ·exact .inr (.inl h)
     ·exact .inr (.inr (.inl h))
     ·exact .inr (.inr (.inr h))
    ·rintro(h|h|h|h)
     ·exact .inl (.inl h)
     ·exact .inl (.inr (.inl h))
     ·exact .inl (.inr (.inr h))
     ·exact .inr h
   ·obtain rfl:k=q6.length:=by omega
    rw[take_length] at HM J;go_wp2_with fail;go_ret;exact⟨_,fy,D,rfl,T.o,HM.o,by have:=J.o;omega,U.o⟩
 ·have gX:(q0==3)=false:=by simpa using V
  rw[if_neg V];clear V;go_in;go_wp2_with fail;generalize O:w.alloc (.cells #[.int .i64 q0,.int .i64 q1,.int .i64 q2,.int .i64 q3,.string q4,.string q5,.slice ae q6.length ah] 165)=B;have gB:Gr w B:=gb O;have b0:B.cell? ⟨w.heap.size,0,none⟩=some (.int .i64 q0):=by rw[←O];exact aJ rfl rfl
  have b1:B.cell? ⟨w.heap.size,1,none⟩=some (.int .i64 q1):=by rw[←O];exact aJ rfl rfl
  have b2:B.cell? ⟨w.heap.size,2,none⟩=some (.int .i64 q2):=by rw[←O];exact aJ rfl rfl
  have b3:B.cell? ⟨w.heap.size,3,none⟩=some (.int .i64 q3):=by rw[←O];exact aJ rfl rfl
  have b4:B.cell? ⟨w.heap.size,4,none⟩=some (.string q4):=by rw[←O];exact aJ rfl rfl
  have b5:B.cell? ⟨w.heap.size,5,none⟩=some (.string q5):=by rw[←O];exact aJ rfl rfl
  have b6:B.cell? ⟨w.heap.size,6,none⟩=some (.slice ae q6.length ah):=by rw[←O];exact aJ rfl rfl
  have ai:=Kz gB;have I:=Kz (And.intro b0 (And.intro b1 (And.intro b2 (And.intro b3 (And.intro b4 (And.intro b5 b6))))));clear O gB b0 b1 b2 b3 b4 b5 b6
  go_loopw [5,1] (fun s5 s1 wr=>∃(k:Nat) (fy:List Nat) (D:List ag),k≤q6.length∧Ky (Gr B wr)∧Ky (SlR fy wr s1 D)∧Ky (∀z,z∈D↔z∈xs∨z∈([]:List ag)++(q6.take k).flatMap (gP d))∧Ky (D.length≤xs.length+1+((q6.take k).map (cZ d)).sum)∧s5=.int .i64 k) (fun s5 _ _=>q6.length - (intOf s5).toNat)
  case atStart=>exact⟨0,fu,xs,by omega,Kz (Gr.refl _),Kz (HU.o.gr ai.o),Kz (fun z=>by simp),Kz (by simp),rfl⟩
  case round=>
   obtain⟨k,fy,D,hk,q,T,HM,J,rfl⟩:=hrel
   rename World=>W1
   obtain⟨ay,ky,rfl,-,-,-⟩:=T.o.open;have y0:=q.o.keep I.o.1;have y1:=q.o.keep I.o.2.1;have y2:=q.o.keep I.o.2.2.1;have y3:=q.o.keep I.o.2.2.2.1;have y4:=q.o.keep I.o.2.2.2.2.1;have y5:=q.o.keep I.o.2.2.2.2.2.1;have y6:=q.o.keep I.o.2.2.2.2.2.2;have U:=Kz (ai.o.trans q.o)
   by_cases K:k<q6.length
   ·have Y:=Kz (lI (cZ d) q6 K)
    have ak:=Kz (nu (cZ d) q6 (k+1));have ax:=Kz (show(q6.take (k+1)).flatMap (gP d)=(q6.take k).flatMap (gP d)++gP d q6[k] by rw[List.take_succ_eq_append_getElem K,List.flatMap_append,List.flatMap_singleton]);have aZ:=Kz (show D.length+cZ d q6[k]≤2097152 by have h1:=J.o;have h2:=Y.o;have V:=ak.o;omega)
    obtain⟨d1,rfl⟩:∃e,d=e+1:=by
     cases d with
     |zero=>exact PEmpty.elim (q6[k])
     |succ e=>exact⟨e,rfl⟩
    obtain⟨b,off,rfl,hb⟩:=X k K;obtain⟨p0,p1,p2,p3,p4,p5,p6,oL,o5,o9,qb,bg,bq,bB,bH,bL,bR,bX,cB,cK,-,-,z0,z1,z2,z3,z4,z5,z6,zb⟩:=Lc gD.o K U.o;have k0:(0:Int)≤(k:Int):=by omega
    have k1:(k:Int)<(q6.length:Int):=by omega
    have iw:=zI1 k (by omega);clear X bB bH bL bR bX cB cK;go_wp2_with fail;refine(hE _ _ _ _ q6[k] D _ (Rd.gr (by rw[←bg.o];exact bq.o) U.o) T.o aZ.o).mono ?_;rintro e w' ⟨v,fz,zs,rfl,hz,hm,Z,g2⟩;have cO:=Kz hz;have dB:=Kz hm;have dS:=Kz Z;have dV:=Kz g2;clear hz hm Z g2;go_wp2_with fail;refine⟨⟨k+1,fz,zs,by omega,Kz (q.o.trans dV.o),cO,Kz fun z=>?_,Kz (by have h1:=dS.o;have h2:=J.o;have V:=Y.o;omega),by go_num⟩,by simp[intOf];omega⟩;rw[dB.o z,HM.o z,ax.o];simp only[mem_append];constructor
    ·rintro((h|h|h)|h)
     ·exact .inl h
     ·exact .inr (.inl h)
     ·exact .inr (.inr (.inl h))
     ·exact .inr (.inr (.inr h))
    ·rintro(h|h|h|h)
     ·exact .inl (.inl h)
     ·exact .inl (.inr (.inl h))
     ·exact .inl (.inr (.inr h))
     ·exact .inr h
   ·obtain rfl:k=q6.length:=by omega
    rw[take_length] at HM J;go_wp2_with fail;go_ret;exact⟨_,fy,D,rfl,T.o,HM.o,by have:=J.o;omega,U.o⟩
theorem sj:(d:Nat)→∀(fp h:List Nat) (cs:Array Value) (u:Value) (x:GE d) (xs:List ag) (w:World) (q:Rd.rd fp w cs.toList x) (hu:SlR h w u xs) (B:xs.length+cZ d x≤2097152),Calls Tryz.prog 275 #[.agg cs,u] w (Gq (gP d x) (cZ d x) xs w)
 |0=>by intro fp h cs u x;exact PEmpty.elim x
 |d+1=>uI (sj d)
def Ho(us:List ag)(w:World)(e:Ending)(w':World):Prop:=
 ∃(u:Value) (fq:List Nat) (h:List ag),e=.returned u∧SlR fq w' u h∧(∀z,z∈h↔z∈us)∧Gr w w'
theorem Bb(fp:List Nat)(cs:Array Value)(x:aA d)(w:World)(h:Rd.rd fp w cs.toList x)(q:cZ (d+1) x≤2097152):Calls Tryz.prog 257 #[.agg cs] w (Ho (gP (d+1) x) w):=by
 have J:=Kz q;obtain⟨q0,q1,q2,q3,q4,q5,q6,V,X,Y,rfl,rfl,-,Z,ae,ah,ai,aj,ak,au,K,O⟩:=KU h;have T:=Kz h;clear h;clear q;go_in;go_wp2_with fail;refine(uI (sj d) _ [] _ _ (q0,q1,q2,q3,q4,q5,q6) [] _ (Rd.gr T.o gd) ⟨_,0,rfl,by simp,by simp,.inl ⟨rfl,rfl⟩⟩ (by have:=J.o;simp;omega)).mono ?_;rintro e w' ⟨u2,B,U,rfl,D,I,ax,x1,rfl⟩;go_wp2_with fail;go_ret;exact⟨_,B,U,rfl,D,fun z=>by rw[I z];simp,gd⟩
theorem oP(r:aW d)(p:Int)(s:ByteArray)(w:World)(hr:Rd.rd fr w cr.toList r)(hs:j6 r p=s):Qz 158 #[.agg cr,.int .i64 p] w (.string s):=by
 have h:=iG r p w hr;rw[hs] at h;exact h
theorem zY(g:af d)(s n:ByteArray)(v:Int)(w:World)(hg:Rd.rd fg w cg.toList g)(q:aP g≤1048576)(hv:xD g s n=v):
  Qz 157 #[.agg cg,.string s,.string n] w (.int .i64 v):=by
 have h:=uJ g s n w hg q;rw[hv] at h;exact h
theorem Dk(g:af d)(r:aW d)(x:aA n)(w:World)(hE:TyC g r n)(hg:Rd.rd fg w cg.toList g)(hr:Rd.rd fr w cr.toList r)(hx:Rd.rd fx w cx.toList x)(hl:aP g≤1048576)(hk:x.1=3):
  Qz 156 #[.agg cg,.agg cr,.agg cx] w (.int .i64 (dZ g r (n+1) x)):=by
 have bg:=Kz hl;clear hE hl;have HG:=Kz hg;obtain⟨g0,g1,ag0,kg0,gF,ag1,kg1,gT,rfl,rfl,-,gV,bL,bR,gX,bX,cB⟩:=yt hg;clear hg;have HR:=Kz hr;obtain⟨I,J,q,K,O,T,ae,ah,ik,ai,aj,iw,ak,au,kr,rfl,rfl,-,ku,ky,lq,cK,cO,oH,dB,dS,oL,dV,fe⟩:=KV hr;clear hr;obtain⟨q0,q1,q2,q3,q4,q5,q6,ax,ay,o5,rfl,rfl,-,o9,qb,q8,q9,sO,uf,uo,fu,gD⟩:=KU hx;clear hx;obtain⟨aZ,U⟩:=nm (dZ (g0,g1) (I,J,q,K,O,T) (n+1) ((q0,q1,q2,q3,q4,q5,q6):aA n));rw[←U];obtain rfl:q0=3:=hk;have X:=Kz U;clear U
 by_cases D:0≤q2∧q2≤(q.length:Int)
 ·have hb:(decide (0≤q2)&&decide (q2≤(q.length:Int)))=true:=by rw[decide_eq_true D.1,decide_eq_true D.2];rfl
  have HF:=Kz (show aZ=xD (g0,g1) (j6 (I,J,q,K,O,T) q2) q5 by
   rw[X.o]
   show pO (jf (g0,g1) (I,J,q,K,O,T) (q2,q5))=_
   rw[rG D];rfl)
  obtain⟨S,hS⟩:=nm (j6 (I,J,q,K,O,T) q2);have HS:=Kz hS;obtain⟨V,hV⟩:=nm (xD (g0,g1) S q5);have HV:=Kz hV;clear D hS hV;delta Qz;go_in
  go_wp2_with (first|(go_at_call 96;refine(fI _ _ _ _).mono ?_;rintro e w' ⟨rfl,rfl⟩;rw[hb]))
  generalize Y:((((w.alloc (.cells #[.slice ag0 g0.length kg0,.slice ag1 g1.length kg1] 39)).alloc (.cells #[.string I,.string J,.slice ae q.length ah,.bool K,.slice ai O.length aj,.slice ak T.length au] 128)).alloc (.cells #[.int .i64 3,.int .i64 q1,.int .i64 q2,.int .i64 q3,.string q4,.string q5,.slice ax q6.length ay] 165)))=B;have gB:Gr w B:=gb Y;have VG:=Kz (show az B w.heap.size 39 [.slice ag0 g0.length kg0,.slice ag1 g1.length kg1] from by rw[←Y];exact kv);have VR:=Kz (show az B (w.heap.size+1) 128 [.string I,.string J,.slice ae q.length ah,.bool K,.slice ai O.length aj,.slice ak T.length au] from by rw[←Y];exact kv);have VX:=Kz (show az B (w.heap.size+1+1) 165 [.int .i64 3,.int .i64 q1,.int .i64 q2,.int .i64 q3,.string q4,.string q5,.slice ax q6.length ay] from by rw[←Y];exact kv);have Z:=Kz gB;clear Y gB;obtain⟨bq,uq⟩:=(VG.o).c2;have uz:=blk bq;obtain⟨bB,u6,ve,vB,vD,vF⟩:=(VR.o).c6;have vG:=blk bB;have bH:=(VX.o).c 0;have vL:=(VX.o).c 2;have vO:=(VX.o).c 5;have vR:=blk bH;refine wg ?_
  iterate 9 (go_big_quiet_step (first|(go_at_call 158;refine aG (oP (I,J,q,K,O,T) q2 S _ (Rd.gr HR.o ?_) HS.o.symm)<;>exact Z.o.trans gd)|(go_at_call 157;refine aG (zY (g0,g1) S q5 V _ (Rd.gr HG.o ?_) bg.o HV.o.symm)<;>exact Z.o.trans gd)))
  refine wq fun nx=>?_
  go_wp2_with fail;go_ret;exact⟨by rw[HF.o,←HS.o,←HV.o];rfl,Z.o.trans gd⟩
 ·have hb:(decide (0≤q2)&&decide (q2≤(q.length:Int)))=false:=Bool.and_eq_false_iff.2 (by by_cases h:0≤q2<;>simp_all<;>omega)
  have HF:=Kz (show aZ=0 by
   rw[X.o]
   show pO (jf (g0,g1) (I,J,q,K,O,T) (q2,q5))=_
   rw[tV D];rfl)
  clear D;delta Qz;go_in
  go_wp2_with (first|(go_at_call 96;refine(fI _ _ _ _).mono ?_;rintro e w' ⟨rfl,rfl⟩;rw[hb]))
  go_ret;exact⟨by rw[HF.o];rfl,gd⟩
theorem CK(g:af d)(r:aW d)(x:aA n)(w:World)(I:TyC g r n)(hg:Rd.rd fg w cg.toList g)(hr:Rd.rd fr w cr.toList r)(B:Rd.rd fx w cx.toList x)(J:aP g≤1048576)(hk:x.1=1):
  Qz 156 #[.agg cg,.agg cr,.agg cx] w (.int .i64 (dZ g r (n+1) x)):=by
 clear I J;obtain⟨g0,g1,ag0,kg0,aZ,ag1,kg1,bg,rfl,rfl,-,bq,K,O,bB,T,U⟩:=yt hg;clear hg;obtain⟨V,X,Y,Z,r4,r5,bH,bL,bR,bX,cB,cK,cO,dB,dS,rfl,rfl,-,dV,fe,fu,ae,ah,gB,ai,aj,gD,ak,au⟩:=KV hr;clear hr;obtain⟨q0,q1,q2,q3,q4,q5,q6,gF,gT,gV,rfl,rfl,-,gX,ik,iw,kr,ku,ky,lq,ax,ay⟩:=KU B;clear B;obtain⟨D,h⟩:=nm (dZ (g0,g1) (V,X,Y,Z,r4,r5) (n+1) ((q0,q1,q2,q3,q4,q5,q6):aA n));rw[←h];obtain rfl:q0=1:=hk;have q:=Kz h;clear h;have HF:=Kz (show D=q3 by rw[q.o];rfl);delta Qz;go_in;go_wp2_with fail;go_ret;exact⟨by rw[HF.o];rfl,gd⟩
theorem BQ(g:af d)(r:aW d)(x:aA n)(w:World)(K:TyC g r n)(hg:Rd.rd fg w cg.toList g)(hr:Rd.rd fr w cr.toList r)(I:Rd.rd fx w cx.toList x)(O:aP g≤1048576)(hk:x.1=2):
  Qz 156 #[.agg cg,.agg cr,.agg cx] w (.int .i64 (dZ g r (n+1) x)):=by
 clear K O;obtain⟨g0,g1,ag0,kg0,aZ,ag1,kg1,bg,rfl,rfl,-,bq,T,U,bB,V,X⟩:=yt hg;clear hg;obtain⟨Y,Z,r2,J,r4,r5,bH,bL,bR,bX,cB,cK,cO,dB,dS,rfl,rfl,-,dV,fe,fu,ae,ah,gB,ai,aj,gD,ak,au⟩:=KV hr;clear hr;obtain⟨q0,q1,q2,q3,q4,q5,q6,gF,gT,gV,rfl,rfl,-,gX,ik,iw,kr,ku,ky,lq,ax,ay⟩:=KU I;clear I;obtain⟨B,h⟩:=nm (dZ (g0,g1) (Y,Z,r2,J,r4,r5) (n+1) ((q0,q1,q2,q3,q4,q5,q6):aA n));rw[←h];obtain rfl:q0=2:=hk;have q:=Kz h;clear h
 cases J with
 |true=>
  have D:=Kz (show B=1 by rw[q.o];rfl);delta Qz;go_in;go_wp2_with fail;go_ret;exact⟨by rw[D.o];rfl,gd⟩
 |false=>
  have D:=Kz (show B=0 by rw[q.o];rfl);delta Qz;go_in;go_wp2_with fail;go_ret;exact⟨by rw[D.o];rfl,gd⟩
theorem Cq(g:af d)(r:aW d)(x:aA n)(w:World)(U:TyC g r n)(hg:Rd.rd fg w cg.toList g)(hr:Rd.rd fr w cr.toList r)(q:Rd.rd fx w cx.toList x)(X:aP g≤1048576)(hk:x.1=4):
  Qz 156 #[.agg cg,.agg cr,.agg cx] w (.int .i64 (dZ g r (n+1) x)):=by
 have Y:=Kz U;clear U X;have Z:=Kz hg;obtain⟨g0,g1,ag0,kg0,bH,ag1,kg1,bL,rfl,rfl,-,bR,ae,ah,bX,ai,aj⟩:=yt hg;clear hg;have HR:=Kz hr;obtain⟨B,D,I,J,K,O,cB,cK,cO,dB,dS,dV,fe,fu,gB,rfl,rfl,-,gD,gF,gT,ak,au,gV,ax,ay,gX,aZ,bg⟩:=KV hr;clear hr;obtain⟨q0,q1,q2,q3,q4,q5,q6,ik,iw,kr,rfl,rfl,-,ku,ky,lq,oH,oL,o5,o9,bq,bB⟩:=KU q;have HX:=Kz q;clear q;obtain⟨V,h⟩:=nm (dZ (g0,g1) (B,D,I,J,K,O) (n+1) ((q0,q1,q2,q3,q4,q5,q6):aA n));rw[←h];obtain rfl:q0=4:=hk;have T:=Kz h;clear h;have HF:=Kz (show V=KO (g0,g1) (B,D,I,J,K,O) q1 q6 by rw[T.o];rfl);delta Qz;go_in;go_wp2_with fail;refine(CY (g0,g1) (B,D,I,J,K,O) (4,q1,q2,q3,q4,q5,q6) _ Y.o (Rd.gr Z.o gd) (Rd.gr HR.o gd) (Rd.gr HX.o gd)).mono ?_;rintro e w' ⟨rfl,x1,rfl⟩;go_wp2_with fail;go_ret;exact⟨by rw[HF.o];rfl,gd⟩
theorem CP(g:af d)(r:aW d)(x:aA n)(w:World)(U:TyC g r n)(hg:Rd.rd fg w cg.toList g)(hr:Rd.rd fr w cr.toList r)(q:Rd.rd fx w cx.toList x)(X:aP g≤1048576)(hk:x.1=5):
  Qz 156 #[.agg cg,.agg cr,.agg cx] w (.int .i64 (dZ g r (n+1) x)):=by
 have Y:=Kz U;clear U X;have Z:=Kz hg;obtain⟨g0,g1,ag0,kg0,bH,ag1,kg1,bL,rfl,rfl,-,bR,ae,ah,bX,ai,aj⟩:=yt hg;clear hg;have HR:=Kz hr;obtain⟨B,D,I,J,K,O,cB,cK,cO,dB,dS,dV,fe,fu,gB,rfl,rfl,-,gD,gF,gT,ak,au,gV,ax,ay,gX,aZ,bg⟩:=KV hr;clear hr;obtain⟨q0,q1,q2,q3,q4,q5,q6,ik,iw,kr,rfl,rfl,-,ku,ky,lq,oH,oL,o5,o9,bq,bB⟩:=KU q;have HX:=Kz q;clear q;obtain⟨V,h⟩:=nm (dZ (g0,g1) (B,D,I,J,K,O) (n+1) ((q0,q1,q2,q3,q4,q5,q6):aA n));rw[←h];obtain rfl:q0=5:=hk;have T:=Kz h;clear h;have HF:=Kz (show V=KN (g0,g1) (B,D,I,J,K,O) q6 by rw[T.o];rfl);delta Qz;go_in;go_wp2_with fail;refine(Cv (g0,g1) (B,D,I,J,K,O) (5,q1,q2,q3,q4,q5,q6) _ Y.o (Rd.gr Z.o gd) (Rd.gr HR.o gd) (Rd.gr HX.o gd)).mono ?_;rintro e w' ⟨rfl,x1,rfl⟩;go_wp2_with fail;go_ret;exact⟨by rw[HF.o];rfl,gd⟩
theorem Cm(g:af d)(r:aW d)(x:aA n)(w:World)(K:TyC g r n)(hg:Rd.rd fg w cg.toList g)(hr:Rd.rd fr w cr.toList r)(D:Rd.rd fx w cx.toList x)(O:aP g≤1048576)(hk:x.1=6):
  Qz 156 #[.agg cg,.agg cr,.agg cx] w (.int .i64 (dZ g r (n+1) x)):=by
 clear K O;obtain⟨g0,g1,ag0,kg0,aZ,ag1,kg1,bg,rfl,rfl,-,bq,T,U,bB,V,X⟩:=yt hg;clear hg;obtain⟨Y,Z,I,r3,r4,r5,bH,bL,bR,bX,cB,cK,cO,dB,dS,rfl,rfl,-,dV,fe,fu,ae,ah,gB,ai,aj,gD,ak,au⟩:=KV hr;clear hr;obtain⟨q0,q1,q2,q3,q4,q5,q6,gF,gT,gV,rfl,rfl,-,gX,ik,iw,kr,ku,ky,lq,ax,ay⟩:=KU D;clear D;obtain⟨J,h⟩:=nm (dZ (g0,g1) (Y,Z,I,r3,r4,r5) (n+1) ((q0,q1,q2,q3,q4,q5,q6):aA n));rw[←h];obtain rfl:q0=6:=hk;have B:=Kz h;clear h;have q:J=if 0≤q2∧q2≤(I.length:Int) then 4 else 0:=by rw[B.o];rfl
 have HF:=Kz q;clear q;delta Qz;go_in
 go_wp2_with (first|(go_at_call 96;refine(fI _ _ _ _).mono ?_;rintro e w' ⟨rfl,rfl⟩))
 go_ways
 all_goals
  go_ret;refine⟨?_,gd⟩;rw[HF.o]
  first|(simp_all;done)|(simp_all;intros;omega)
theorem Dr(g:af d)(r:aW d)(x:aA n)(w:World)(I:TyC g r n)(hg:Rd.rd fg w cg.toList g)(hr:Rd.rd fr w cr.toList r)(B:Rd.rd fx w cx.toList x)(J:aP g≤1048576)(hk:x.1=7):
  Qz 156 #[.agg cg,.agg cr,.agg cx] w (.int .i64 (dZ g r (n+1) x)):=by
 clear I J;obtain⟨g0,g1,ag0,kg0,aZ,ag1,kg1,bg,rfl,rfl,-,bq,K,O,bB,T,U⟩:=yt hg;clear hg;obtain⟨V,X,Y,Z,r4,r5,bH,bL,bR,bX,cB,cK,cO,dB,dS,rfl,rfl,-,dV,fe,fu,ae,ah,gB,ai,aj,gD,ak,au⟩:=KV hr;clear hr;obtain⟨q0,q1,q2,q3,q4,q5,q6,gF,gT,gV,rfl,rfl,-,gX,ik,iw,kr,ku,ky,lq,ax,ay⟩:=KU B;clear B;obtain⟨D,h⟩:=nm (dZ (g0,g1) (V,X,Y,Z,r4,r5) (n+1) ((q0,q1,q2,q3,q4,q5,q6):aA n));rw[←h];obtain rfl:q0=7:=hk;have q:=Kz h;clear h;have HF:=Kz (show D=4 by rw[q.o];rfl);delta Qz;go_in;go_wp2_with fail;go_ret;exact⟨by rw[HF.o];rfl,gd⟩
theorem Cz(g:af d)(r:aW d)(x:aA n)(w:World)(X:TyC g r n)(hg:Rd.rd fg w cg.toList g)(hr:Rd.rd fr w cr.toList r)(U:Rd.rd fx w cx.toList x)(Y:aP g≤1048576)(hk:¬(1≤x.1∧x.1≤8)):
  Qz 156 #[.agg cg,.agg cr,.agg cx] w (.int .i64 (dZ g r (n+1) x)):=by
 clear X Y;obtain⟨g0,g1,ag0,kg0,bB,ag1,kg1,bH,rfl,rfl,-,bL,Z,ae,bR,ah,ai⟩:=yt hg;clear hg;obtain⟨r0,r1,r2,r3,r4,r5,bX,cB,cK,cO,dB,dS,dV,fe,fu,rfl,rfl,-,gB,gD,gF,aj,ak,gT,au,ax,gV,ay,aZ⟩:=KV hr;clear hr;obtain⟨q0,q1,q2,q3,q4,q5,q6,gX,ik,iw,rfl,rfl,-,kr,ku,ky,lq,oH,oL,o5,bg,bq⟩:=KU U;clear U;obtain⟨V,h⟩:=nm (dZ (g0,g1) (r0,r1,r2,r3,r4,r5) (n+1) ((q0,q1,q2,q3,q4,q5,q6):aA n));rw[←h];have o9:(q0==1)=false:=by simp;rintro rfl;exact hk ⟨by simp,by simp⟩
 have q:q0≠1:=by rintro rfl;exact hk ⟨by simp,by simp⟩
 have qb:(q0==2)=false:=by simp;rintro rfl;exact hk ⟨by simp,by simp⟩
 have B:q0≠2:=by rintro rfl;exact hk ⟨by simp,by simp⟩
 have q8:(q0==3)=false:=by simp;rintro rfl;exact hk ⟨by simp,by simp⟩
 have D:q0≠3:=by rintro rfl;exact hk ⟨by simp,by simp⟩
 have q9:(q0==4)=false:=by simp;rintro rfl;exact hk ⟨by simp,by simp⟩
 have I:q0≠4:=by rintro rfl;exact hk ⟨by simp,by simp⟩
 have sO:(q0==5)=false:=by simp;rintro rfl;exact hk ⟨by simp,by simp⟩
 have J:q0≠5:=by rintro rfl;exact hk ⟨by simp,by simp⟩
 have uf:(q0==6)=false:=by simp;rintro rfl;exact hk ⟨by simp,by simp⟩
 have K:q0≠6:=by rintro rfl;exact hk ⟨by simp,by simp⟩
 have uo:(q0==7)=false:=by simp;rintro rfl;exact hk ⟨by simp,by simp⟩
 have O:q0≠7:=by rintro rfl;exact hk ⟨by simp,by simp⟩
 have uq:(q0==8)=false:=by simp;rintro rfl;exact hk ⟨by simp,by simp⟩
 have T:q0≠8:=by rintro rfl;exact hk ⟨by simp,by simp⟩
 have HF:=Kz (show V=0 by
  rw[h]
  show(if q0=1 then _ else if q0=2 then _ else if q0=3 then _ else if q0=4 then _ else if q0=5 then _ else if q0=6 then _ else if q0=7 then _ else if q0=8 then _ else _)=_
  rw[if_neg q,if_neg B,if_neg D,if_neg I,if_neg J,if_neg K,if_neg O,if_neg T])
 clear h hk q B D I J K O T;delta Qz;go_in;go_wp2_with fail;go_ret;exact⟨by rw[HF.o];rfl,gd⟩
theorem KP(g:af d)(r:aW d)(x:aA n)(w:World)(hE:TyC g r n)(hg:Rd.rd fg w cg.toList g)(hr:Rd.rd fr w cr.toList r)(hx:Rd.rd fx w cx.toList x)(hl:aP g≤1048576)(hk:x.1=8):
  Qz 156 #[.agg cg,.agg cr,.agg cx] w (.int .i64 (dZ g r (n+1) x)):=by
 have sO:=Kz hl;have HE:=Kz hE;clear hE hl;have HG:=Kz hg;obtain⟨g0,g1,ag0,kg0,y5,ag1,kg1,y7,rfl,rfl,-,y8,vF,vG,y9,vL,vO⟩:=yt hg;clear hg;have HR:=Kz hr;obtain⟨Y,Z,r2,r3,r4,r5,ah,ai,za,aj,ak,zb,au,ax,ze,rfl,rfl,-,zf,zg,zl,vR,vX,zn,wF,wL,zo,w9,xc⟩:=KV hr;clear hr;obtain⟨q0,q1,q2,q3,q4,q5,q6,I,J,zq,rfl,rfl,-,zu,zx,zy,zH,zL,zO,ku,x9,yc⟩:=KU hx;have q9:=ku.op3;have uf:=Kz ku;clear hx;obtain⟨ky,ae⟩:=nm (dZ (g0,g1) (Y,Z,r2,r3,r4,r5) (n+1) ((q0,q1,q2,q3,q4,q5,q6):aA n));rw[←ae];obtain rfl:q0=8:=hk;have ay:=Kz ae;clear ae
 by_cases hlen:q6.length=1
 ·obtain⟨a,hq⟩:∃a,q6=[a]:=by
   match q6,hlen with
   |[a],_=>exact⟨a,rfl⟩
  have z8:(q6.length:Int)=1:=by omega
  have uo:0<q6.length:=by omega
  have Ha:=Kz (show q6[0]'(uo)=a by simp[hq]);have uq:=Kz hq;clear hq hlen
  obtain⟨n1,rfl⟩:∃m,n=m+1:=by
   cases n with
   |zero=>exact PEmpty.elim a
   |succ m=>exact⟨m,rfl⟩
  delta Qz;go_in;go_wp2_with fail;generalize D:((((w.alloc (.cells #[.slice ag0 g0.length kg0,.slice ag1 g1.length kg1] 39)).alloc (.cells #[.string Y,.string Z,.slice ah r2.length ai,.bool r3,.slice aj r4.length ak,.slice au r5.length ax] 128)).alloc (.cells #[.int .i64 8,.int .i64 q1,.int .i64 q2,.int .i64 q3,.string q4,.string q5,.slice I q6.length J] 165)))=B;have gB:Gr w B:=gb D;have VG:=Kz (show az B w.heap.size 39 [.slice ag0 g0.length kg0,.slice ag1 g1.length kg1] from by rw[←D];exact kv);have VR:=Kz (show az B (w.heap.size+1) 128 [.string Y,.string Z,.slice ah r2.length ai,.bool r3,.slice aj r4.length ak,.slice au r5.length ax] from by rw[←D];exact kv);have VX:=Kz (show az B (w.heap.size+1+1) 165 [.int .i64 8,.int .i64 q1,.int .i64 q2,.int .i64 q3,.string q4,.string q5,.slice I q6.length J] from by rw[←D];exact kv);have aZ:=Kz (show az B (w.heap.size+2) 165 [.int .i64 8,.int .i64 q1,.int .i64 q2,.int .i64 q3,.string q4,.string q5,.slice I q6.length J] from VX.o);have h:=Kz gB;clear D gB;obtain⟨b,off,rfl,hb⟩:=q9 0 (by omega);obtain⟨bg,lq,q,K,-⟩:=uf.o.at (i:=0) (by omega);have K:Rd.rd (α:=aA n1) lq w bg a:=by rw[←Ha.o];exact K
  obtain⟨yp,hyp⟩:∃y:aA n1,y=a:=⟨_,rfl⟩;rw[←hyp] at K;have uz:=Kz hyp;have oH:=Kz K;obtain⟨p0,p1,p2,p3,p4,p5,p6⟩:=yp;obtain⟨A7,BM,bq,-,-,-,-,-,-,-,oL⟩:=aF (cs:=bg.toArray) p0 p1 p2 p3 p4 p5 p6 (show Rd.rd (α:=aA n1) lq w bg.toArray.toList _ from K);obtain rfl:=toL bq;obtain⟨u6,ve,rfl,-,-,-⟩:=oL.open;have vB:=h.o.keep (show w.cell? ⟨b,off,none⟩=some (.int .i64 p0) from by simpa[Rd.n] using q 0 _ rfl);have EB:=h.o.keep (show w.cell? ⟨b,off+1,none⟩=some (.int .i64 p1) from by simpa[Rd.n] using q 1 _ rfl);have E5:=h.o.keep (show w.cell? ⟨b,off+2,none⟩=some (.int .i64 p2) from by simpa[Rd.n] using q 2 _ rfl);have FX:=h.o.keep (show w.cell? ⟨b,off+3,none⟩=some (.int .i64 p3) from by simpa[Rd.n] using q 3 _ rfl);have F4:=h.o.keep (show w.cell? ⟨b,off+4,none⟩=some (.string p4) from by simpa[Rd.n] using q 4 _ rfl);have F5:=h.o.keep (show w.cell? ⟨b,off+5,none⟩=some (.string p5) from by simpa[Rd.n] using q 5 _ rfl);have F6:=h.o.keep (show w.cell? ⟨b,off+6,none⟩=some (.slice u6 p6.length ve) from by simpa[Rd.n] using q 6 _ rfl);have F8:=blk vB;clear bq q K hyp oL;obtain⟨O,bB⟩:=(VG.o).c2;have o5:=blk O;obtain⟨T,bH,bL,bR,bX,cB⟩:=(VR.o).c6;have o9:=blk T;obtain⟨U,cK,cO,dB,dS,dV,fe⟩:=(VX.o).c7;have qb:=blk U;obtain⟨X,fu,gD,gF,gT,gV,gX⟩:=(aZ.o).c7;have q8:=blk X;obtain⟨V1,ik⟩:=nm (dZ (g0,g1) (Y,Z,r2,r3,r4,r5) (n1+1) (p0,p1,p2,p3,p4,p5,p6));have H1:=Kz ik.symm
  have HF:=Kz (show ky=if V1=4 then xD (g0,g1) q4 q5 else 0 by
   rw[ay.o,uq.o]
   show(if _ then _ else _)=_
   rw[←uz.o,ik];rfl)
  clear ik
  by_cases h1:V1=4
  ·subst h1
   refine wg ?_
   iterate 14 (go_big_quiet_step ((go_at_call_of 156 p0;refine aG (vT HE.o (g0,g1) (Y,Z,r2,r3,r4,r5) (p0,p1,p2,p3,p4,p5,p6) _ (Rd.gr HG.o ?_) (Rd.gr HR.o ?_) (Rd.gr oH.o ?_) H1.o)<;>exact h.o.trans gd)))
   refine wq fun nx=>?_
   go_wp2_with fail;obtain⟨B2,iw⟩:=nm (B.ext nx);have g2:Gr B B2:=by rw[iw];exact gd
   rw[←iw];clear iw;have kr:=Kz (h.o.trans g2);replace O:=g2.keep O;replace bB:=g2.keep bB;replace o5:=blk O;replace T:=g2.keep T;replace bH:=g2.keep bH;replace bL:=g2.keep bL;replace bR:=g2.keep bR;replace bX:=g2.keep bX;replace cB:=g2.keep cB;replace o9:=blk T;replace U:=g2.keep U;replace cK:=g2.keep cK;replace cO:=g2.keep cO;replace dB:=g2.keep dB;replace dS:=g2.keep dS;replace dV:=g2.keep dV;replace fe:=g2.keep fe;replace qb:=blk U;replace X:=g2.keep X;replace fu:=g2.keep fu;replace gD:=g2.keep gD;replace gF:=g2.keep gF;replace gT:=g2.keep gT;replace gV:=g2.keep gV;replace gX:=g2.keep gX;replace q8:=blk X;obtain⟨V,hV⟩:=nm (xD (g0,g1) q4 q5);have HV:=Kz hV;clear hV
   go_wp2_with (first|(go_at_call 157;refine(uJ (g0,g1) q4 q5 _ (Rd.gr HG.o (tg kr)) sO.o).mono ?_;rintro e w' ⟨rfl,x5,rfl⟩;rw[←HV.o]))
   go_ret;exact⟨by rw[HF.o,←HV.o];simp,kr.o.trans gd⟩
  ·have He:(V1==4)=false:=by simpa using h1
   refine wg ?_
   iterate 14 (go_big_quiet_step ((go_at_call_of 156 p0;refine aG (vT HE.o (g0,g1) (Y,Z,r2,r3,r4,r5) (p0,p1,p2,p3,p4,p5,p6) _ (Rd.gr HG.o ?_) (Rd.gr HR.o ?_) (Rd.gr oH.o ?_) H1.o)<;>exact h.o.trans gd)))
   refine wq fun nx=>?_
   go_wp2_with fail;go_ret;exact⟨by rw[HF.o,if_neg h1];rfl,h.o.trans gd⟩
 ·have vD:¬((q6.length:Int)=1):=by omega
  have yu:((q6.length:Int)==1)=false:=by simpa using vD
  have HF:=Kz (show ky=0 from by
   rw[ay.o]
   show(match q6 with|[a]=>_|_=>_)=_
   split
   ·simp at hlen
   ·rfl)
  clear hlen;delta Qz;go_in;go_wp2_with fail;generalize D:((((w.alloc (.cells #[.slice ag0 g0.length kg0,.slice ag1 g1.length kg1] 39)).alloc (.cells #[.string Y,.string Z,.slice ah r2.length ai,.bool r3,.slice aj r4.length ak,.slice au r5.length ax] 128)).alloc (.cells #[.int .i64 8,.int .i64 q1,.int .i64 q2,.int .i64 q3,.string q4,.string q5,.slice I q6.length J] 165)))=B;have gB:Gr w B:=gb D;have VG:=Kz (show az B w.heap.size 39 [.slice ag0 g0.length kg0,.slice ag1 g1.length kg1] from by rw[←D];exact kv);have VR:=Kz (show az B (w.heap.size+1) 128 [.string Y,.string Z,.slice ah r2.length ai,.bool r3,.slice aj r4.length ak,.slice au r5.length ax] from by rw[←D];exact kv);have VX:=Kz (show az B (w.heap.size+1+1) 165 [.int .i64 8,.int .i64 q1,.int .i64 q2,.int .i64 q3,.string q4,.string q5,.slice I q6.length J] from by rw[←D];exact kv);have aZ:=Kz (show az B (w.heap.size+2) 165 [.int .i64 8,.int .i64 q1,.int .i64 q2,.int .i64 q3,.string q4,.string q5,.slice I q6.length J] from VX.o);have h:=Kz gB;clear D gB;obtain⟨O,bB⟩:=(VG.o).c2;have o5:=blk O;obtain⟨T,bH,bL,bR,bX,cB⟩:=(VR.o).c6;have o9:=blk T;obtain⟨U,cK,cO,dB,dS,dV,fe⟩:=(VX.o).c7;have qb:=blk U;obtain⟨X,fu,gD,gF,gT,gV,gX⟩:=(aZ.o).c7;have q8:=blk X;refine wg ?_
  iterate 14 (go_big_quiet_step (fail))
  refine wq fun nx=>?_
  go_wp2_with fail;go_ret;exact⟨by rw[HF.o];rfl,h.o.trans gd⟩
theorem zm{g:af d}{r:aW d}(q:aP g≤1048576)(B:TyC g r n):TyC g r (n+1):=by
 intro fg fr fx cg cr cx x w hg hr D
 by_cases h:1≤(x:aA n).1∧(x:aA n).1≤8
 ·have:(x:aA n).1=1∨(x:aA n).1=2∨(x:aA n).1=3∨(x:aA n).1=4∨(x:aA n).1=5∨(x:aA n).1=6∨(x:aA n).1=7∨(x:aA n).1=8:=by omega
  rcases this with h|h|h|h|h|h|h|h
  ·exact CK g r x w B hg hr D q h
  ·exact BQ g r x w B hg hr D q h
  ·exact Dk g r x w B hg hr D q h
  ·exact Cq g r x w B hg hr D q h
  ·exact CP g r x w B hg hr D q h
  ·exact Cm g r x w B hg hr D q h
  ·exact Dr g r x w B hg hr D q h
  ·exact KP g r x w B hg hr D q h
 ·exact Cz g r x w B hg hr D q h
theorem wC{g:af d}{r:aW d}(h:aP g≤1048576):(n:Nat)→TyC g r n
 |0=>by intro fg fr fx cg cr cx x;exact PEmpty.elim x
 |n+1=>zm h (wC h n)
end Go.Proofs.YtleafadpfeibfaaGreat
