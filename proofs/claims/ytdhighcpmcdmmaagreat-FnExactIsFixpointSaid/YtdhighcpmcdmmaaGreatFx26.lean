/- Contracts and laws towards ReadsOf, part 25 of 54. No condition. -/
import Derived.Test.YtdhighcpmcdmmaaGreatFx23
import Derived.Test.YtdhighcpmcdmmaaGreatFx24
set_option maxHeartbeats 32000000
set_option maxRecDepth 10000
set_option linter.unusedVariables false
set_option linter.unusedSimpArgs false
namespace Go.Proofs.YtdhighcpmcdmmaaGreat
open Go.RowKit
open _root_.List (flatten_append mem_append take_length)
variable{d:Nat}
def Ir(x y:ag):Bool:=decide (x.1<y.1)||(decide (x.1=y.1)&&Op.bytesLess x.2.toList y.2.toList)
theorem Bn{fx I:List Nat}{cx s:Array Value}(x y:ag)(w:World)(B:Rd.rd fx w cx.toList x)(D:Rd.rd I w s.toList y):Qz 295 #[.agg cx,.agg s] w (.bool (Ir x y)):=by
 obtain⟨E,J,rfl,rfl,-,O,T⟩:=KT B;clear B;obtain⟨H,K,rfl,rfl,-,U,X⟩:=KT D;clear D;obtain⟨R,q⟩:=nm (Ir (E,J) (H,K));rw[←q];have h:=Kz q;clear q;delta Qz;go_in;go_wp2_with fail
 go_ways
 all_goals
  go_ret;refine⟨aa ?_,gd⟩;rw[h.o];unfold Ir;clear h
  first|(simp_all;done)|(simp_all;omega)|(have Y:¬(E<H):=(by omega);simp_all)
theorem SlR.suf{α:Type}[Rd α]{fp:List Nat}{w:World}{b off len cap:Nat}{xs:List α}(h:SlR fp w (.slice (some ⟨b,off,none⟩) len cap) xs){k:Nat}(D:k≤xs.length)(hp:0<Rd.n α):∃fq,SlR fq w (.slice (some ⟨b,off+k*Rd.n α,none⟩) (len - k) (cap - k)) (xs.drop k)∧∀c∈fq,c∈fp:=by
 obtain⟨a',I,J,h1,h2,K⟩:=h;injection J with s O T;subst T;subst O;have q:(xs.drop k).length=xs.length - k:=by simp
 by_cases B:k=xs.length
 ·subst B
  exact⟨[],⟨some ⟨b,off+xs.length*Rd.n α,none⟩,cap - xs.length,by simp,by simp,by simp,.inl ⟨by simp,rfl⟩⟩,by simp⟩
 ·rcases K with⟨U,ae⟩|⟨b',X,fps,ah,Y,rfl,hlen,E,Z⟩
  ·subst U
   simp at D B;omega
  ·rw[Y] at s
   injection s with s;injection s with e4 e5;subst e4 e5;refine⟨b::(fps.drop k).flatten,⟨some ⟨b,off+k*Rd.n α,none⟩,cap - k,by rw[q],by rw[q];omega,by rw[q];omega,.inr ⟨b,off+k*Rd.n α,fps.drop k,fun e=>by rw[e] at q;simp at q;omega,rfl,rfl,by simp[hlen],fun j hj=>?_,fun i hi ai=>?_⟩⟩,fun c hc=>?_⟩
   ·rw[q,Nat.sub_mul] at hj
    have:=Nat.mul_le_mul_right (Rd.n α) D;rw[Nat.add_assoc];exact E _ (by omega)
   ·rw[q] at hi
    obtain⟨cs,hc,hr⟩:=Z (k+i) (by omega) (by omega);exact⟨cs,by rw[Nat.add_assoc,←Nat.add_mul];exact hc,by simpa using hr⟩
   ·rcases List.mem_cons.1 hc with h|h
    ·rw[h];simp
    ·obtain⟨f,hf,H⟩:=List.mem_flatten.1 h
     exact List.mem_cons_of_mem _ (List.mem_flatten.2 ⟨f,List.mem_of_mem_drop hf,H⟩)
def J7(fp:List Nat)(xs:List ag)(o:ag)(w:World)(e:Ending)(w':World):Prop:=
 ∃(u:Value) (fq:List Nat) (h:List ag),e=.returned u∧SlR fq w' u h∧(∀z,z∈h↔z∈xs∨z=o)∧h.length≤xs.length+1∧Gr w w'
theorem Iu{xs:List ag}{k:Nat}{o z:ag}:z∈[]++xs.take k++[o]++xs.drop k↔z∈xs∨z=o:=by
 have h:=List.take_append_drop k xs;constructor
 ·intro hm
  simp only[List.nil_append,mem_append,List.mem_singleton] at hm;rcases hm with(hm|hm)|hm
  ·exact .inl (List.mem_of_mem_take hm)
  ·exact .inr hm
  ·exact .inl (List.mem_of_mem_drop hm)
 ·intro hm
  simp only[List.nil_append,mem_append,List.mem_singleton];rcases hm with hm|hm
  ·rw[←h,mem_append] at hm
   exact hm.elim (fun h=>.inl (.inl h)) .inr
  ·exact .inl (.inr hm)
theorem wy:oM ag:=mU nK nI
theorem FZ{fp fo:List Nat}{u:Value}{co:Array Value}(xs:List ag)(o:ag)(w:World)(hx:SlR fp w u xs)(ho:Rd.rd fo w co.toList o)(dC:xs.length≤2097152):
  Calls Tryz.prog 254 #[u,.agg co] w (J7 fp xs o w):=by
 obtain⟨i0,hi⟩:=info_parts Tryz.nX;have q:=Kz hi;clear hi;have HX:=Kz hx;obtain⟨ax,kx,rfl,dG,dL,cK⟩:=hx.open;obtain⟨E,K,rfl,rfl,-,bD,bH⟩:=KT ho;clear ho;have aN:=Kz (fun W=>bO (w:=W) E K bD bH);clear hx bD bH;go_in;go_wp2_with fail;generalize hB:(w.alloc (.cells #[.int .i64 E,.string K] 132))=B;have gB:Gr w B:=gb hB;obtain⟨ai,aj⟩:=kb2 hB (w.heap.size) (.int .i64 E) (.string K);clear hB
 go_loopw [5] (fun s5 wr=>∃k:Nat,k≤xs.length∧Ky (Gr B wr)∧s5=.int .i64 k) (fun s5 _=>xs.length - (intOf s5).toNat)
 case atStart=>exact⟨0,by omega,Kz (Gr.refl _),rfl⟩
 case round=>
  obtain⟨k,hk,HG,rfl⟩:=hrel
  rename World=>W1
  have Y:=Kz (gB.trans HG.o);have H:=ai _ HG.o;have y1:=aj _ HG.o;have zy:=blk H
  by_cases aS:k<xs.length
  ·obtain⟨b,off,rfl,hb⟩:=cK k aS
   obtain⟨p0,p1,bK,bL,cO,dz,z0,z1,zb⟩:=Le HX.o aS Y.o;have k0:(0:Int)≤(k:Int):=by omega
   have k1:(k:Int)<(xs.length:Int):=by omega
   have iw:=zI1 k (by omega);clear cO dz;obtain⟨M,hM⟩:=nm (Ir (p0,p1) (E,K));have HM:=Kz hM;clear hM;go_wp2_with fail;refine wg ?_
   repeat(go_big_quiet_step ((go_at_call 295;refine aG (Bn (p0,p1) (E,K) _ (Rd.gr bL.o ?_) (aN.o _))<;>exact Y.o.trans gd)))
   refine wq fun nx=>?_
   rw[←HM.o]
   cases M with
   |true=>
    go_wp2_with fail;exact⟨⟨k+1,by omega,Kz (tg HG),by go_num⟩,by simp[intOf];omega⟩
   |false=>
    obtain⟨W2,aV⟩:=nm (W1.ext nx);have D:Gr W1 W2:=by rw[aV];exact gd
    rw[←aV];replace H:=D.keep H;replace y1:=D.keep y1;replace zy:=blk H;replace z0:=D.keep z0;replace z1:=D.keep z1;replace zb:=blk z0;clear aV
    have bB:(p0=E∧p1=K)∨(p0≠E)∨(p0=E∧p1.toList≠K.toList):=
     (Classical.em (p0=E)).elim (fun t0=>(Classical.em (p1=K)).elim (fun t1=>.inl ⟨t0,t1⟩) (fun t1=>.inr (.inr ⟨t0,fun e=>t1 (str_inj e)⟩))) (fun t0=>.inr (.inl t0))
    rcases bB with⟨rfl,rfl⟩|e|⟨e0,e⟩
    ·have HF:=Kz (show(p0,p1)∈xs from by rw[bK.o];exact List.getElem_mem aS)
     go_wp2_with fail
     go_region
     all_goals
      go_wp2_with fail;go_ret;exact⟨_,fp,xs,rfl,HX.o.gr (Y.o.trans (D.trans gd)),fun z=>⟨.inl,fun h=>h.elim id fun e=>by rw[e];exact HF.o⟩,by omega,Y.o.trans (D.trans gd)⟩
    all_goals
     try(have e1:=Eq.symm e0;subst e1)
     go_wp2_with fail
     go_region
     all_goals
      clear z0 z1 zb H y1 zy HM bK bL;replace D:Gr W1 W2.drew:=D.trans gd;generalize W2.drew=W3 at D ⊢;clear W2;have T:=Y.o.trans D;have I:=Kz (HG.o.trans D);have H:=ai _ I.o;have y1:=aj _ I.o;have zy:=blk H;obtain⟨dA,U,-⟩:=HX.o.pre hk;obtain⟨au,hsrc,-,-⟩:=eT.qL (U.gr T);have aZ:=Kz hsrc;have ay:=Kz (eT.flat wy hsrc);clear U hsrc D T
      go_upto_region 7 with(first|(at_builtin;refine bP (α:=ag) (w0:=B) (tg I) rfl _ _ 129 rfl 132 i0 _ _ Tryz.underlying129 q.o.1 q.o.2.1 q.o.2.2.1 q.o.2.2.2 rfl _ [] [] (by rfl) (bE.kF (α:=ag) (w0:=B) 132 I.o.size (by first|rfl|omega|(simp;done))) _ au (xs.take k) (by rfl) (aZ.o.gr gd) (fun b _=>by rw[ay.o];simp) (by unfold maxLen;simp;omega) (by simp;omega) ?_;intro v3 w3 Z h2 h3 X;replace Z:=Kz Z;replace X:=Kz X;clear h2 h3))
      obtain⟨ra,rc,s⟩:=Z.o.form;subst s;have H:=ai _ X.o;have y1:=aj _ X.o;have zy:=blk H
      go_upto_region 8 with(first|(at_builtin;refine bP (α:=ag) (w0:=B) (tg X) rfl _ _ 129 rfl 132 i0 _ _ Tryz.underlying129 q.o.1 q.o.2.1 q.o.2.2.1 q.o.2.2.2 rfl _ ([]++au) ([]++xs.take k) (by rfl) (Z.o.gr gd) _ [[]] [(E,K)] (by rfl) (eT.one (by simp) (aN.o _)) (fun b _=>by simp) (by unfold maxLen;simp;omega) (by simp;omega) ?_;intro v5 w5 h5 h6 h7 h8;replace h5:=Kz h5;replace h8:=Kz h8;clear h6 h7))
      obtain⟨rb,rd,s⟩:=h5.o.form;subst s;have h9:=gB.trans h8.o;obtain⟨dU,bg,-⟩:=HX.o.suf hk (by decide);obtain⟨O,ae,-,-⟩:=eT.qL (bg.gr h9);have bq:=Kz ae;have aL:=Kz (eT.flat wy ae);have ah:=Kz (fun z=>Iu (xs:=xs) (k:=k) (o:=(E,K)) (z:=z));clear bg ae;have J:(xs.drop k).length≤2097152:=by(try rw[List.length_drop])<;>(try simp)<;>omega
      go_wp2_with (first|(at_builtin;refine bP (α:=ag) (w0:=B) (tg h8) rfl _ _ 129 rfl 132 i0 _ _ Tryz.underlying129 q.o.1 q.o.2.1 q.o.2.2.1 q.o.2.2.2 rfl _ _ _ (by rfl) (h5.o.gr gd) _ O (xs.drop k) (by rfl) (bq.o.gr gd) (fun b _=>by rw[aL.o];simp) (by unfold maxLen;simp at J ⊢;omega) (by simp at J ⊢;omega) ?_;intro v7 w7 k1 k2 k3 k4;replace k1:=Kz k1;replace k4:=Kz k4;clear k2 k3))
      all_goals
       obtain⟨fz,hz,-⟩:=k1.o.fresh (by simp at J ⊢;unfold bn;omega) (by rw[flatten_append,flatten_append,flatten_append,ay.o,aL.o];exact aY.nil _);go_ret;exact⟨_,fz,_,rfl,hz,ah.o,by simp at J ⊢;omega,gB.trans k4.o⟩
  ·have bN:k=xs.length:=by omega
   have iw:=zI1 k (by omega);have bV:=Kz bN;clear bN;go_wp2_with fail
   go_region
   all_goals
    go_wp2_with fail
    go_region
    all_goals
     clear H y1 zy;have D:Gr W1 W1.drew.drew:=gd;generalize W1.drew.drew=W3 at D ⊢
     cases ax
     all_goals
      have T:=Y.o.trans D;have I:=Kz (HG.o.trans D);have H:=ai _ I.o;have y1:=aj _ I.o;have zy:=blk H;obtain⟨dA,U,-⟩:=HX.o.pre hk;obtain⟨au,hsrc,-,-⟩:=eT.qL (U.gr T);have aZ:=Kz hsrc;have ay:=Kz (eT.flat wy hsrc);clear U hsrc D T
      go_upto_region 7 with(first|(at_builtin;refine bP (α:=ag) (w0:=B) (tg I) rfl _ _ 129 rfl 132 i0 _ _ Tryz.underlying129 q.o.1 q.o.2.1 q.o.2.2.1 q.o.2.2.2 rfl _ [] [] (by rfl) (bE.kF (α:=ag) (w0:=B) 132 I.o.size (by first|rfl|omega|(simp;done))) _ au (xs.take k) (by rfl) (aZ.o.gr gd) (fun b _=>by rw[ay.o];simp) (by unfold maxLen;simp;omega) (by simp;omega) ?_;intro v3 w3 Z h2 h3 X;replace Z:=Kz Z;replace X:=Kz X;clear h2 h3))
      obtain⟨ra,rc,s⟩:=Z.o.form;subst s;have H:=ai _ X.o;have y1:=aj _ X.o;have zy:=blk H
      go_upto_region 8 with(first|(at_builtin;refine bP (α:=ag) (w0:=B) (tg X) rfl _ _ 129 rfl 132 i0 _ _ Tryz.underlying129 q.o.1 q.o.2.1 q.o.2.2.1 q.o.2.2.2 rfl _ ([]++au) ([]++xs.take k) (by rfl) (Z.o.gr gd) _ [[]] [(E,K)] (by rfl) (eT.one (by simp) (aN.o _)) (fun b _=>by simp) (by unfold maxLen;simp;omega) (by simp;omega) ?_;intro v5 w5 h5 h6 h7 h8;replace h5:=Kz h5;replace h8:=Kz h8;clear h6 h7))
      obtain⟨rb,rd,s⟩:=h5.o.form;subst s;have h9:=gB.trans h8.o;obtain⟨O,aL,bq,ah⟩:∃O:List (List Nat),Ky (O.flatten=[])∧Ky (∀a n c,n=0→eT (α:=ag) w5 (.slice a n c) O [])∧Ky (∀z:ag,z∈[]++xs.take k++[(E,K)]++[]↔z∈xs∨z=(E,K)):=⟨[],Kz rfl,Kz fun a n c h0=>.inl ⟨rfl,rfl,a,c,by rw[h0]⟩,Kz (by rw[bV.o,take_length];simp)⟩;have J:(([]:List ag)).length≤2097152:=by(try rw[List.length_drop])<;>(try simp)<;>omega
      go_wp2_with (first|(at_builtin;refine bP (α:=ag) (w0:=B) (tg h8) rfl _ _ 129 rfl 132 i0 _ _ Tryz.underlying129 q.o.1 q.o.2.1 q.o.2.2.1 q.o.2.2.2 rfl _ _ _ (by rfl) (h5.o.gr gd) _ O (([]:List ag)) (by rfl) ((bq.o _ _ _ (by have h0:=bV.o;omega)).gr gd) (fun b _=>by rw[aL.o];simp) (by unfold maxLen;simp at J ⊢;omega) (by simp at J ⊢;omega) ?_;intro v7 w7 k1 k2 k3 k4;replace k1:=Kz k1;replace k4:=Kz k4;clear k2 k3))
      all_goals
       obtain⟨fz,hz,-⟩:=k1.o.fresh (by simp at J ⊢;unfold bn;omega) (by rw[flatten_append,flatten_append,flatten_append,ay.o,aL.o];exact aY.nil _);go_ret;exact⟨_,fz,_,rfl,hz,ah.o,by simp at J ⊢;omega,gB.trans k4.o⟩
def Gq(us:List ag)(n:Nat)(xs:List ag)(w:World)(e:Ending)(w':World):Prop:=
 ∃(u:Value) (fq:List Nat) (h:List ag),e=.returned u∧SlR fq w' u h∧(∀z,z∈h↔z∈xs∨z∈us)∧h.length≤xs.length+n∧Gr w w'
theorem wW{q0 q1 q2 q3:Int}{q4 q5:ByteArray}{q6:List (GE d)}:gP (d+1) ((q0,q1,q2,q3,q4,q5,q6):aA d)=(if q0=3 then[(q2,q5)] else[])++q6.flatMap (gP d):=rfl
theorem uI(hE:∀(fp fu:List Nat) (cs:Array Value) (u:Value) (x:GE d) (xs:List ag) (w:World) (hx:Rd.rd fp w cs.toList x) (hu:SlR fu w u xs) (hl:xs.length+cZ d x≤2097152),Calls Tryz.prog 216 #[.agg cs,u] w (Gq (gP d x) (cZ d x) xs w))
  (fp fu:List Nat) (cs:Array Value) (u:Value) (x:aA d) (xs:List ag) (w:World) (hx:Rd.rd fp w cs.toList x) (hu:SlR fu w u xs) (hl:xs.length+cZ (d+1) x≤2097152):Calls Tryz.prog 216 #[.agg cs,u] w (Gq (gP (d+1) x) (cZ (d+1) x) xs w):=by
 obtain⟨q0,q1,q2,q3,q4,q5,q6,ae,ah,gH,rfl,rfl,-,gM,gT,dC,ik,jN,dG,cO,gD,gF⟩:=KU hx;have T:=cO.op3;have dz:=Kz cO;clear hx;rw[wE] at hl ⊢;rw[wW];have HU:=Kz hu;obtain⟨au,ku,rfl,-,-,-⟩:=hu.open;clear hu
 by_cases O:q0=3
 ·have dL:(q0==3)=true:=by simp[O]
  rw[if_pos O];have dU:=Kz (fun W=>bO (w:=W) q2 q5 dC dG);clear O;go_in;go_wp2_with fail;refine(FZ xs (q2,q5) _ (HU.o.gr gd) (dU.o _) (by omega)).mono ?_;rintro e w' ⟨u2,dW,s,rfl,aj,dA,jX,x1,rfl⟩;generalize I:(w.alloc (.cells #[.int .i64 q0,.int .i64 q1,.int .i64 q2,.int .i64 q3,.string q4,.string q5,.slice ae q6.length ah] 115)).ext x1=B at aj ⊢;have gB:Gr w B:=gb I;have U:az B w.heap.size 115 [.int .i64 q0,.int .i64 q1,.int .i64 q2,.int .i64 q3,.string q4,.string q5,.slice ae q6.length ah]:=by rw[←I];exact(az.new (A:=w) rfl).gr gd
  have ai:=Kz gB;have D:=Kz (And.intro (U.c 0) (And.intro (U.c 1) (And.intro (U.c 2) (And.intro (U.c 3) (And.intro (U.c 4) (And.intro (U.c 5) (U.c 6)))))));have eH:=Kz aj;have fe:=Kz dA;clear I gB U aj dA;go_wp2_with fail
  go_loopw [5,1] (fun Z s1 wr=>∃(k:Nat) (fy:List Nat) (s:List ag),k≤q6.length∧Ky (Gr B wr)∧Ky (SlR fy wr s1 s)∧Ky (∀z,z∈s↔z∈xs∨z∈[(q2,q5)]++(q6.take k).flatMap (gP d))∧Ky (s.length≤xs.length+1+((q6.take k).map (cZ d)).sum)∧Z=.int .i64 k) (fun Z _ _=>q6.length - (intOf Z).toNat)
  case atStart=>exact⟨0,dW,s,by omega,Kz (Gr.refl _),eH,Kz (fun z=>by rw[fe.o z];simp),Kz (by simp;omega),rfl⟩
  case round=>
   obtain⟨k,fy,s,hk,q,J,HM,E,rfl⟩:=hrel
   rename World=>W1
   obtain⟨ay,ky,rfl,-,-,-⟩:=J.o.open;have y0:=q.o.keep D.o.1;have y1:=q.o.keep D.o.2.1;have y2:=q.o.keep D.o.2.2.1;have y3:=q.o.keep D.o.2.2.2.1;have y4:=q.o.keep D.o.2.2.2.2.1;have y5:=q.o.keep D.o.2.2.2.2.2.1;have y6:=q.o.keep D.o.2.2.2.2.2.2;have K:=Kz (ai.o.trans q.o)
   by_cases H:k<q6.length
   ·have X:=Kz (lI (cZ d) q6 H)
    have ax:=Kz (nu (cZ d) q6 (k+1));have aL:=Kz (show(q6.take (k+1)).flatMap (gP d)=(q6.take k).flatMap (gP d)++gP d q6[k] by rw[List.take_succ_eq_append_getElem H,List.flatMap_append,List.flatMap_singleton]);have aN:=Kz (show s.length+cZ d q6[k]≤2097152 by have h1:=E.o;have h2:=X.o;have O:=ax.o;omega)
    obtain⟨d1,rfl⟩:∃e,d=e+1:=by
     cases d with
     |zero=>exact PEmpty.elim (q6[k])
     |succ e=>exact⟨e,rfl⟩
    obtain⟨b,off,rfl,hb⟩:=T k H;obtain⟨p0,p1,p2,p3,p4,p5,p6,fw,fA,fK,gm,aS,aV,aZ,bg,bq,bB,bD,bH,bK,-,-,z0,z1,z2,z3,z4,z5,z6,zb⟩:=Lc dz.o H K.o;have k0:(0:Int)≤(k:Int):=by omega
    have k1:(k:Int)<(q6.length:Int):=by omega
    have iw:=zI1 k (by omega);clear T aZ bg bq bB bD bH bK;go_wp2_with fail;refine(hE _ _ _ _ q6[k] s _ (Rd.gr (by rw[←aS.o];exact aV.o) K.o) J.o aN.o).mono ?_;rintro e w' ⟨v,fz,zs,rfl,hz,hm,Y,g2⟩;have bL:=Kz hz;have bN:=Kz hm;have bV:=Kz Y;have cK:=Kz g2;clear hz hm Y g2;go_wp2_with fail;refine⟨⟨k+1,fz,zs,by omega,Kz (q.o.trans cK.o),bL,Kz fun z=>?_,Kz (by have h1:=bV.o;have h2:=E.o;have O:=X.o;omega),by go_num⟩,by simp[intOf];omega⟩;rw[bN.o z,HM.o z,aL.o];simp only[mem_append];constructor
    ·rintro((h|h|h)|h)
     ·exact .inl h
     ·exact .inr (.inl h)
     ·exact .inr (.inr (.inl h))
     ·exact .inr (.inr (.inr h))
    ·rintro(h|h|h|h)
     ·exact .inl (.inl h)
     ·exact .inl (.inr (.inl h))
     ·exact .inl (.inr (.inr h))
     ·exact .inr h
   ·obtain rfl:k=q6.length:=by omega
    rw[take_length] at HM E;go_wp2_with fail;go_ret;exact⟨_,fy,s,rfl,J.o,HM.o,by have:=E.o;omega,K.o⟩
 ·have dL:(q0==3)=false:=by simpa using O
  rw[if_neg O];clear O;go_in;go_wp2_with fail;generalize I:w.alloc (.cells #[.int .i64 q0,.int .i64 q1,.int .i64 q2,.int .i64 q3,.string q4,.string q5,.slice ae q6.length ah] 115)=B;have gB:Gr w B:=gb I;have b0:B.cell? ⟨w.heap.size,0,none⟩=some (.int .i64 q0):=by rw[←I];exact aJ rfl rfl
  have b1:B.cell? ⟨w.heap.size,1,none⟩=some (.int .i64 q1):=by rw[←I];exact aJ rfl rfl
  have b2:B.cell? ⟨w.heap.size,2,none⟩=some (.int .i64 q2):=by rw[←I];exact aJ rfl rfl
  have b3:B.cell? ⟨w.heap.size,3,none⟩=some (.int .i64 q3):=by rw[←I];exact aJ rfl rfl
  have b4:B.cell? ⟨w.heap.size,4,none⟩=some (.string q4):=by rw[←I];exact aJ rfl rfl
  have b5:B.cell? ⟨w.heap.size,5,none⟩=some (.string q5):=by rw[←I];exact aJ rfl rfl
  have b6:B.cell? ⟨w.heap.size,6,none⟩=some (.slice ae q6.length ah):=by rw[←I];exact aJ rfl rfl
  have ai:=Kz gB;have D:=Kz (And.intro b0 (And.intro b1 (And.intro b2 (And.intro b3 (And.intro b4 (And.intro b5 b6))))));clear I gB b0 b1 b2 b3 b4 b5 b6
  go_loopw [5,1] (fun Z s1 wr=>∃(k:Nat) (fy:List Nat) (s:List ag),k≤q6.length∧Ky (Gr B wr)∧Ky (SlR fy wr s1 s)∧Ky (∀z,z∈s↔z∈xs∨z∈([]:List ag)++(q6.take k).flatMap (gP d))∧Ky (s.length≤xs.length+1+((q6.take k).map (cZ d)).sum)∧Z=.int .i64 k) (fun Z _ _=>q6.length - (intOf Z).toNat)
  case atStart=>exact⟨0,fu,xs,by omega,Kz (Gr.refl _),Kz (HU.o.gr ai.o),Kz (fun z=>by simp),Kz (by simp),rfl⟩
  case round=>
   obtain⟨k,fy,s,hk,q,J,HM,E,rfl⟩:=hrel
   rename World=>W1
   obtain⟨ay,ky,rfl,-,-,-⟩:=J.o.open;have y0:=q.o.keep D.o.1;have y1:=q.o.keep D.o.2.1;have y2:=q.o.keep D.o.2.2.1;have y3:=q.o.keep D.o.2.2.2.1;have y4:=q.o.keep D.o.2.2.2.2.1;have y5:=q.o.keep D.o.2.2.2.2.2.1;have y6:=q.o.keep D.o.2.2.2.2.2.2;have K:=Kz (ai.o.trans q.o)
   by_cases H:k<q6.length
   ·have X:=Kz (lI (cZ d) q6 H)
    have ax:=Kz (nu (cZ d) q6 (k+1));have aL:=Kz (show(q6.take (k+1)).flatMap (gP d)=(q6.take k).flatMap (gP d)++gP d q6[k] by rw[List.take_succ_eq_append_getElem H,List.flatMap_append,List.flatMap_singleton]);have aN:=Kz (show s.length+cZ d q6[k]≤2097152 by have h1:=E.o;have h2:=X.o;have O:=ax.o;omega)
    obtain⟨d1,rfl⟩:∃e,d=e+1:=by
     cases d with
     |zero=>exact PEmpty.elim (q6[k])
     |succ e=>exact⟨e,rfl⟩
    obtain⟨b,off,rfl,hb⟩:=T k H;obtain⟨p0,p1,p2,p3,p4,p5,p6,fw,fA,fK,gm,aS,aV,aZ,bg,bq,bB,bD,bH,bK,-,-,z0,z1,z2,z3,z4,z5,z6,zb⟩:=Lc dz.o H K.o;have k0:(0:Int)≤(k:Int):=by omega
    have k1:(k:Int)<(q6.length:Int):=by omega
    have iw:=zI1 k (by omega);clear T aZ bg bq bB bD bH bK;go_wp2_with fail;refine(hE _ _ _ _ q6[k] s _ (Rd.gr (by rw[←aS.o];exact aV.o) K.o) J.o aN.o).mono ?_;rintro e w' ⟨v,fz,zs,rfl,hz,hm,Y,g2⟩;have bL:=Kz hz;have bN:=Kz hm;have bV:=Kz Y;have cK:=Kz g2;clear hz hm Y g2;go_wp2_with fail;refine⟨⟨k+1,fz,zs,by omega,Kz (q.o.trans cK.o),bL,Kz fun z=>?_,Kz (by have h1:=bV.o;have h2:=E.o;have O:=X.o;omega),by go_num⟩,by simp[intOf];omega⟩;rw[bN.o z,HM.o z,aL.o];simp only[mem_append];constructor
    ·rintro((h|h|h)|h)
     ·exact .inl h
     ·exact .inr (.inl h)
     ·exact .inr (.inr (.inl h))
     ·exact .inr (.inr (.inr h))
    ·rintro(h|h|h|h)
     ·exact .inl (.inl h)
     ·exact .inl (.inr (.inl h))
     ·exact .inl (.inr (.inr h))
     ·exact .inr h
   ·obtain rfl:k=q6.length:=by omega
    rw[take_length] at HM E;go_wp2_with fail;go_ret;exact⟨_,fy,s,rfl,J.o,HM.o,by have:=E.o;omega,K.o⟩
theorem sj:(d:Nat)→∀(fp h:List Nat) (cs:Array Value) (u:Value) (x:GE d) (xs:List ag) (w:World) (q:Rd.rd fp w cs.toList x) (hu:SlR h w u xs) (s:xs.length+cZ d x≤2097152),Calls Tryz.prog 216 #[.agg cs,u] w (Gq (gP d x) (cZ d x) xs w)
 |0=>by intro fp h cs u x;exact PEmpty.elim x
 |d+1=>uI (sj d)
def Ho(us:List ag)(w:World)(e:Ending)(w':World):Prop:=
 ∃(u:Value) (fq:List Nat) (h:List ag),e=.returned u∧SlR fq w' u h∧(∀z,z∈h↔z∈us)∧Gr w w'
def O3(us:List ag)(K:Nat)(w:World)(e:Ending)(w':World):Prop:=
 ∃(u:Value) (fq:List Nat) (h:List ag),e=.returned u∧SlR fq w' u h∧(∀z,z∈h↔z∈us)∧h.length≤K∧Gr w w'
theorem OW(fp:List Nat)(cs:Array Value)(x:aA d)(w:World)(h:Rd.rd fp w cs.toList x)(q:cZ (d+1) x≤2097152):Calls Tryz.prog 155 #[.agg cs] w (O3 (gP (d+1) x) 2097152 w):=by
 have s:=Kz q;obtain⟨q0,q1,q2,q3,q4,q5,q6,U,X,Y,rfl,rfl,-,Z,ae,ah,ai,aj,au,ax,I,J⟩:=KU h;have K:=Kz h;clear h;clear q;go_in;go_wp2_with fail;refine(uI (sj d) _ [] _ _ (q0,q1,q2,q3,q4,q5,q6) [] _ (Rd.gr K.o gd) ⟨_,0,rfl,by simp,by simp,.inl ⟨rfl,rfl⟩⟩ (by have:=s.o;simp;omega)).mono ?_;rintro e w' ⟨u2,B,O,rfl,D,E,H,x1,rfl⟩;go_wp2_with fail;go_ret;exact⟨_,B,O,rfl,D,fun z=>by rw[E z];simp,by have h1:=s.o;have T:=H;simp at T;omega,gd⟩
theorem Bb(fp:List Nat)(cs:Array Value)(x:aA d)(w:World)(h:Rd.rd fp w cs.toList x)(q:cZ (d+1) x≤2097152):Calls Tryz.prog 155 #[.agg cs] w (Ho (gP (d+1) x) w):=
 (OW fp cs x w h q).mono fun e w' ⟨u,fq,ys,h1,h2,h3,_,h4⟩=>⟨u,fq,ys,h1,h2,h3,h4⟩
theorem oP{fr:List Nat}{cr:Array Value}(r:aW d)(p:Int)(s:ByteArray)(w:World)(q:Rd.rd fr w cr.toList r)(B:j6 r p=s):Qz 184 #[.agg cr,.int .i64 p] w (.string s):=by
 have h:=iG r p w q;rw[B] at h;exact h
theorem zY{fg:List Nat}{cg:Array Value}(g:af d)(s n:ByteArray)(v:Int)(w:World)(q:Rd.rd fg w cg.toList g)(B:aP g≤1048576)(D:xD g s n=v):
  Qz 233 #[.agg cg,.string s,.string n] w (.int .i64 v):=by
 have h:=uJ g s n w q B;rw[D] at h;exact h
theorem Dk{n:Nat}{fg fr fx:List Nat}{cg cr cx:Array Value}(g:af d)(r:aW d)(x:aA n)(w:World)(hE:TyC g r n)(hg:Rd.rd fg w cg.toList g)(hr:Rd.rd fr w cr.toList r)(hx:Rd.rd fx w cx.toList x)(hl:aP g≤1048576)(hk:x.1=3):
  Qz 232 #[.agg cg,.agg cr,.agg cx] w (.int .i64 (dZ g r (n+1) x)):=by
 have bg:=Kz hl;clear hE hl;have HG:=Kz hg;obtain⟨D,E,Z,ae,dU,ah,ai,dW,rfl,rfl,-,eH,bH,bK,fe,bL,bN⟩:=yt hg;clear hg;have HR:=Kz hr;obtain⟨H,I,q,J,K,O,aj,au,fu,ax,ay,fw,aL,aN,fA,rfl,rfl,-,fK,gm,gD,bV,cK,gF,cO,dz,gH,dA,dC⟩:=KV hr;clear hr;obtain⟨q0,q1,q2,q3,q4,q5,q6,aS,aV,gM,rfl,rfl,-,gT,ik,iw,jN,jX,j4,j5,dG,dL⟩:=KU hx;clear hx;obtain⟨aZ,T⟩:=nm (dZ (D,E) (H,I,q,J,K,O) (n+1) ((q0,q1,q2,q3,q4,q5,q6):aA n));rw[←T];obtain rfl:q0=3:=hk;have U:=Kz T;clear T
 by_cases s:0≤q2∧q2≤(q.length:Int)
 ·have hb:(decide (0≤q2)&&decide (q2≤(q.length:Int)))=true:=by rw[decide_eq_true s.1,decide_eq_true s.2];rfl
  have HF:=Kz (show aZ=xD (D,E) (j6 (H,I,q,J,K,O) q2) q5 by
   rw[U.o]
   show pO (jf (D,E) (H,I,q,J,K,O) (q2,q5))=_
   rw[rG s];rfl)
  obtain⟨S,hS⟩:=nm (j6 (H,I,q,J,K,O) q2);have HS:=Kz hS;obtain⟨V,hV⟩:=nm (xD (D,E) S q5);have HV:=Kz hV;clear s hS hV;delta Qz;go_in
  go_wp2_with (first|(go_at_call 86;refine(fI _ _ _ _).mono ?_;rintro e w' ⟨rfl,rfl⟩;rw[hb]))
  generalize X:((((w.alloc (.cells #[.slice Z D.length ae,.slice ah E.length ai] 36)).alloc (.cells #[.string H,.string I,.slice aj q.length au,.bool J,.slice ax K.length ay,.slice aL O.length aN] 112)).alloc (.cells #[.int .i64 3,.int .i64 q1,.int .i64 q2,.int .i64 q3,.string q4,.string q5,.slice aS q6.length aV] 115)))=B;have gB:Gr w B:=gb X;have VG:=Kz (show az B w.heap.size 36 [.slice Z D.length ae,.slice ah E.length ai] from by rw[←X];exact kv);have VR:=Kz (show az B (w.heap.size+1) 112 [.string H,.string I,.slice aj q.length au,.bool J,.slice ax K.length ay,.slice aL O.length aN] from by rw[←X];exact kv);have VX:=Kz (show az B (w.heap.size+1+1) 115 [.int .i64 3,.int .i64 q1,.int .i64 q2,.int .i64 q3,.string q4,.string q5,.slice aS q6.length aV] from by rw[←X];exact kv);have Y:=Kz gB;clear X gB;obtain⟨bq,ku⟩:=(VG.o).c2;have ky:=blk bq;obtain⟨bB,kz,kE,kL,kQ,kS⟩:=(VR.o).c6;have kT:=blk bB;have bD:=(VX.o).c 0;have kV:=(VX.o).c 2;have kX:=(VX.o).c 5;have kZ:=blk bD;refine wg ?_
  iterate 9 (go_big_quiet_step (first|(go_at_call 184;refine aG (oP (H,I,q,J,K,O) q2 S _ (Rd.gr HR.o ?_) HS.o.symm)<;>exact Y.o.trans gd)|(go_at_call 233;refine aG (zY (D,E) S q5 V _ (Rd.gr HG.o ?_) bg.o HV.o.symm)<;>exact Y.o.trans gd)))
  refine wq fun nx=>?_
  go_wp2_with fail;go_ret;exact⟨by rw[HF.o,←HS.o,←HV.o];rfl,Y.o.trans gd⟩
 ·have hb:(decide (0≤q2)&&decide (q2≤(q.length:Int)))=false:=Bool.and_eq_false_iff.2 (by by_cases h:0≤q2<;>simp_all<;>omega)
  have HF:=Kz (show aZ=0 by
   rw[U.o]
   show pO (jf (D,E) (H,I,q,J,K,O) (q2,q5))=_
   rw[tV s];rfl)
  clear s;delta Qz;go_in
  go_wp2_with (first|(go_at_call 86;refine(fI _ _ _ _).mono ?_;rintro e w' ⟨rfl,rfl⟩;rw[hb]))
  go_ret;exact⟨by rw[HF.o];rfl,gd⟩
end Go.Proofs.YtdhighcpmcdmmaaGreat
