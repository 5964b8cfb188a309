/- Contracts and laws towards ReadsOf, part 52 of 54. No condition. -/
import Derived.Test.YtdhighcpmcdmmaaGreatFx49
import Derived.Test.YtdhighcpmcdmmaaGreatFx50
set_option maxHeartbeats 32000000
set_option maxRecDepth 10000
set_option linter.unusedVariables false
set_option linter.unusedSimpArgs false
namespace Go.Proofs.YtdhighcpmcdmmaaGreat
open Go.RowKit
variable{d:Nat}
variable{fg ft fV:List Nat}{cg ct:Array Value}{uV:Value}
theorem NG{fx:List Nat}{cx:Array Value}(g:af d)(t:List aT)(x:av)(L:List av)(V:List Int)(v:Int)(w:World)(E:Rd.rd fg w cg.toList g)(H:Rd.rd (α:=fU) ft w ct.toList t)(I:Rd.rd fx w cx.toList x)(J:SlR fV w uV V)(K:aP g≤1048576)(q:gY t≤1048576)(s:fP g t=true)(B:L=bU g t)(D:L.length=V.length)(O:F8 g t L V x=v):
  Qz 47 #[.agg cg,.agg ct,.agg cx,uV] w (.int .i64 v):=by
 rw[←O];exact MK g t x L V w E H I J K q s B D
theorem Nh{g:af d}{t:List aT}(I:jI g):(bU g t).Nodup:=by
 unfold bU
 split
 ·rename_i J
  have hid:=(jv.1 J).2.1;refine List.pairwise_flatMap.2 ⟨fun n _=>?_,?_⟩
  ·unfold ll
   cases e:bW g.1 (leftOf g n) with
   |none=>exact List.Pairwise.nil
   |some s=>
    have K:=(I.1.2.2.1.1 s (List.mem_of_find?_eq_some e)).2.2.2
    show(List.map _ s.2).Nodup
    refine List.pairwise_iff_getElem.2 fun i j B D q h=>?_
    rw[List.getElem_map,List.getElem_map] at h;exact K j (by simpa using D) i (by simpa using B) q (congrArg Prod.snd h)
  ·rw[List.pairwise_iff_getElem]
   intro i j B D q x E y H e
   subst e;unfold ll at E H;obtain⟨a,-,rfl⟩:=List.mem_map.1 E;obtain⟨b,-,e⟩:=List.mem_map.1 H;exact(hid j D).2 i B q (congrArg Prod.fst e).symm
 ·exact List.Pairwise.nil
theorem Mm{L:List av}(h:L.Nodup){m:Nat}(hm:m<L.length):gL L L[m]=m:=by
 unfold gL;refine iH hm (by simp) fun j s q=>?_
 have:=List.pairwise_iff_getElem.1 h j m s hm q;exact decide_eq_false this
noncomputable def Mv(g:af d)(t:List aT)(L:List av)(V:List Int)(x:av):Bool:=V.getD (gL L x).toNat 0 !=F8 g t L V x
theorem Ox{g:af d}{t:List aT}{L:List av}{V:List Int}(h:L.Nodup):(L.any (Mv g t L V))=!pB (∀i (h:i<L.length),V.getD i 0=F8 g t L V L[i]):=by
 rw[Bool.eq_iff_iff,List.any_eq_true,Bool.not_eq_true',←Bool.not_eq_true,dx];constructor
 ·rintro⟨x,D,s⟩ B
  obtain⟨i,q,rfl⟩:=List.mem_iff_getElem.1 D;have E:=B i q;unfold Mv at s;rw[Mm h q,Int.toNat_natCast,E] at s;simp at s
 ·intro H
  obtain⟨i,q⟩:=Classical.not_forall.1 H;obtain⟨q,I⟩:=Classical.not_forall.1 q;refine⟨L[i],List.getElem_mem q,?_⟩;unfold Mv;rw[Mm h q,Int.toNat_natCast];simpa using I
theorem Oi{fx fL:List Nat}{cx:Array Value}(g:af d)(t:List aT)(x:av)(L:List av)(V:List Int)(aL:Option Addr)(kL:Nat)(aV:Option Addr)(kV:Nat)(bV bL bg bt:Nat)(aN aS:TypeId)(w:World)(hg:Rd.rd fg w cg.toList g)(ht:Rd.rd (α:=fU) ft w ct.toList t)(hx:Rd.rd fx w cx.toList x)(hL:SlR fL w (.slice aL L.length kL) L)(hV:SlR fV w (.slice aV V.length kV) V)
  (X:w.cell? ⟨bV,0,none⟩=some (.slice aV V.length kV)) (Y:w.cell? ⟨bL,0,none⟩=some (.slice aL L.length kL)) (vg:az w bg aN cg.toList) (vt:az w bt aS ct.toList) (hl:aP g≤1048576) (ae:gY t≤1048576) (ah:fP g t=true) (ai:L=bU g t) (aj:L.length=V.length) (hm:x∈L):
  Qz 77 #[.agg cx,.pointer (some ⟨bV,0,none⟩),.pointer (some ⟨bL,0,none⟩),.pointer (some ⟨bg,0,none⟩),.pointer (some ⟨bt,0,none⟩)] w (.bool (Mv g t L V x)):=by
 have aZ:=Kz hl;have bq:=Kz ae;have bB:=Kz ah;have bD:=Kz ai;have bH:=Kz aj;have bK:=Kz hL;have au:=Kz hV;obtain⟨fA,fK,he,-,-,ax⟩:=hV.open;injection he with e1 e2 e3;subst e1 e3;obtain⟨BX,I⟩:=nm (Mv g t L V x);rw[←I];have bN:=Mq hm
 obtain⟨H,J,gm⟩:∃j:Nat,gL L x=j∧j<L.length:=by
  rcases LY L x with h|⟨k,h1,h2,-⟩
  ·omega
  ·exact⟨k,h1,h2⟩
 have K:H<V.length:=by omega
 obtain⟨b9,o9,rfl,gD⟩:=ax H K;have c9:=(au.o.fQ K).1;obtain⟨vv,O⟩:=nm (V[H]);rw[←O] at c9;obtain⟨VL,T⟩:=nm (F8 g t L V x)
 have HB:=Kz (show BX=(vv !=VL) by
  rw[I];unfold Mv;rw[J,Int.toNat_natCast,T,O,List.getD_eq_getElem?_getD,List.getElem?_eq_getElem K];rfl)
 have cK:=Kz J;have cO:=Kz T;have z9:=blk c9;have zV:=blk X;have zL:=blk Y;have j0:(0:Int)≤(H:Int):=by omega
 have j1:(H:Int)<(V.length:Int):=by omega
 clear hl ae ah ai aj hL hV hm I bN J O T ax;have HG:=Kz hg;obtain⟨g0,g1,gF,gH,gM,gT,ik,iw,rfl,rfl,-,jN,dU,dW,jX,eH,fe⟩:=yt hg;clear hg;have HT:=Kz ht;obtain⟨t0,dz,dA,j4,rfl,rfl,-,j5,fu,fw⟩:=K8 ht;clear ht;have HX:=Kz hx;obtain⟨Z,x1,rfl,rfl,-,ku,ky⟩:=K7 hx;clear hx;obtain⟨D,ay⟩:=vg.c2;have E:w.cell? ⟨bt,0,none⟩=some (.slice dz t0.length dA):=vt.c 0;have dC:=blk D;have dG:=blk E;clear vg vt;delta Qz;go_in
 go_upto_region 1 with fail
 obtain⟨B,U⟩:=nm (w.alloc (.cells #[.int .i64 Z,.string x1] 63));rw[←U];have s:Gr w B:=by rw[U];exact gd
 have dL:B.cell? ⟨w.heap.size,0,none⟩=some (.int .i64 Z):=by rw[U];exact aJ rfl rfl
 have kz:B.cell? ⟨w.heap.size,1,none⟩=some (.string x1):=by rw[U];exact aJ rfl rfl
 have zx:=blk dL;replace c9:=s.keep c9;replace X:=s.keep X;replace Y:=s.keep Y;replace D:=s.keep D;replace ay:=s.keep ay;replace E:=s.keep E;replace z9:=blk c9;replace zV:=blk X;replace zL:=blk Y;replace dC:=blk D;replace dG:=blk E;have q:=Kz s;clear U s;refine wg ?_
 repeat(go_big_quiet_step (first|(go_at_call 78;exact aG (M3 L (Z,x1) (H:Int) _ (bK.o.gr (tg q)) (Rd.gr HX.o (tg q)) cK.o))|(go_at_call 47;exact aG (NG (g0,g1) t0 (Z,x1) L V VL _ (Rd.gr HG.o (tg q)) (Rd.gr HT.o (tg q)) (Rd.gr HX.o (tg q)) (au.o.gr (tg q)) aZ.o bq.o bB.o bD.o bH.o cO.o.symm))))
 refine wq fun nx=>?_
 go_wp2_with fail;go_ret;exact⟨aa HB.o.symm,q.o.trans gd⟩
theorem Ng(g:af d)(t:List aT)(V:List Int)(w:World)(hg:Rd.rd fg w cg.toList g)(ht:Rd.rd (α:=fU) ft w ct.toList t)(hV:SlR fV w uV V)(hl:aP g≤1048576)(au:gY t≤1048576)(ax:jI g):
  Qz 32 #[.agg cg,.agg ct,uV] w (.bool (pB ((bU g t).length≠0∧(bU g t).length=V.length∧∀i (h:i<(bU g t).length),V.getD i 0=F8 g t (bU g t) V (bU g t)[i]))):=by
 have ay:=Kz hl;have bq:=Kz au;have bB:=Kz hV;obtain⟨aV,kV,rfl,fA,fK,gm⟩:=hV.open;obtain⟨L,O⟩:=nm (bU g t);have bD:=Kz (show L.Nodup by rw[O];exact Nh ax);have bH:=Kz (show L.length≠0→fP g t=true by rw[O];exact Md);obtain⟨R,hR⟩:=nm (pB ((bU g t).length≠0∧(bU g t).length=V.length∧∀i (h:i<(bU g t).length),V.getD i 0=F8 g t (bU g t) V (bU g t)[i]));rw[←hR];have T:=Kz (show R=pB (L.length≠0∧L.length=V.length∧∀i (h:i<L.length),V.getD i 0=F8 g t L V L[i]) by rw[hR,O]);have aN:=Kz O;clear hl au hV hR O ax;have HG:=Kz hg;obtain⟨s,E,U,X,gF,Y,Z,gH,rfl,rfl,-,gM,dU,dW,gT,eH,fe⟩:=yt hg;clear hg;have HT:=Kz ht;obtain⟨t0,aS,aZ,ik,rfl,rfl,-,iw,fu,fw⟩:=K8 ht;clear ht;delta Qz;go_in
 go_upto_region 1 with fail
 obtain⟨B,I⟩:=nm (((w.alloc (.cells #[.slice U s.length X,.slice Y E.length Z] 36)).alloc (.cells #[.slice aS t0.length aZ] 40)).alloc (.cells #[.slice aV V.length kV] 29));rw[←I];have gB:Gr w B:=by rw[I];exact gd
 have VG:=Kz (show az B w.heap.size 36 (Array.toList #[.slice U s.length X,.slice Y E.length Z]) by rw[I];exact(az.new (A:=w) rfl).gr gd);have VT:=Kz (show az B (w.heap.size+1) 40 (Array.toList #[.slice aS t0.length aZ]) by rw[I];exact(az.new (A:=w.alloc (.cells #[.slice U s.length X,.slice Y E.length Z] 36)) (by simp)).gr gd);have b2:B.cell? ⟨w.heap.size+1+1,0,none⟩=some (.slice aV V.length kV):=by rw[I];exact aJ (by simp) rfl
 have bK:=Kz b2;have ae:=Kz gB;obtain⟨y0,y1⟩:=VG.o.c2;have y2:=VT.o.c 0;have bL:=blk y0;have bN:=blk y2;have bV:=blk b2;clear I gB;go_wp2_with fail;refine(yB (s,E) t0 _ (Rd.gr HG.o (tg ae)) (Rd.gr HT.o (tg ae)) ay.o).mono ?_;rintro e w' ⟨vL,fL,rfl,hs,hf,x1,rfl⟩;rw[←aN.o] at hs;have ah:=Kz hs;obtain⟨aL,kL,rfl,-,-,-⟩:=hs.open;clear hs hf
 go_upto_region 2 with fail
 obtain⟨D,hD⟩:=nm ((B.ext x1).alloc (.cells #[.slice aL L.length kL] 58));rw[←hD];have gD:Gr B D:=by rw[hD];exact gd
 obtain⟨bl,ai⟩:=nm (B.heap.size+x1.objs.size);rw[←ai];have l0:D.cell? ⟨bl,0,none⟩=some (.slice aL L.length kL):=by rw[hD,ai];exact aJ (by simp) rfl
 have bg:=Kz (show SlR fL D (.slice aL L.length kL) L by rw[hD];exact ah.o.gr gd);have cK:=Kz l0;have aj:=Kz gD;have q:=Kz (ae.o.trans gD);replace b2:=gD.keep b2;have zl:=blk l0;replace bV:=blk b2;clear hD gD ai y0 y1 y2 bL bN ah
 by_cases J:L.length=0
 ·have cO:¬((L.length:Int)>0):=by omega
  have HF:=Kz (show R=false from T.o.trans (bz fun h=>h.1 J));clear J;go_wp2_with fail;go_ret;exact⟨aa HF.o.symm,q.o.trans gd⟩
 ·have cO:((L.length:Int)>0):=by omega
  by_cases K:L.length=V.length
  ·have dz:((V.length:Int)==(L.length:Int))=true:=by simp[K]
   have dA:=Kz K;have dC:=Kz (bH.o J);have dG:=Kz (show(L.any (Mv (s,E) t0 L V))=!R from(Ox bD.o).trans (congrArg (fun b=>!b) ((T.o.trans (iO ⟨fun h=>h.2.2,fun h=>⟨J,K,h⟩⟩)).symm)))
   have dL:=Kz (fun(W:World) (H:Gr D W)=>show TestInstance W 77 #[.pointer (some ⟨w.heap.size+1+1,0,none⟩),.pointer (some ⟨bl,0,none⟩),.pointer (some ⟨w.heap.size,0,none⟩),.pointer (some ⟨w.heap.size+1,0,none⟩)] (Mv (s,E) t0 L V) L from
    ⟨Tryz.call77,fun z hz x fp cs hr=>Oi (s,E) t0 z L V aL kL aV kV (w.heap.size+1+1) bl w.heap.size (w.heap.size+1) _ _ _ (Rd.gr HG.o (q.o.trans (H.trans gd))) (Rd.gr HT.o (q.o.trans (H.trans gd))) hr (bg.o.gr (H.trans gd)) (bB.o.gr (q.o.trans (H.trans gd))) ((aj.o.trans (H.trans gd)).keep bK.o) ((H.trans gd).keep cK.o) (VG.o.gr (aj.o.trans (H.trans gd))) (VT.o.gr (aj.o.trans (H.trans gd))) ay.o bq.o dC.o aN.o dA.o hz⟩)
   clear J K
   go_wp2_with (first|(go_at_call 76;refine(F6 _ _ L _ _ (Mv (s,E) t0 L V) _ (bg.o.gr gd) (dL.o _ gd)).mono ?_;rintro e w' ⟨rfl,x2,rfl⟩;rw[dG.o]))
   go_ret;exact⟨aa (by first|rfl|rw[Bool.not_not]),q.o.trans gd⟩
  ·have dz:((V.length:Int)==(L.length:Int))=false:=beq_eq_false_iff_ne.2 (by omega)
   have HF:=Kz (show R=false from T.o.trans (bz fun h=>K h.2.1));clear J K;go_wp2_with fail;go_ret;exact⟨aa HF.o.symm,q.o.trans gd⟩
theorem MO(g:af d)(t:List aT)(V:List Int)(w:World)(J:Rd.rd fg w cg.toList g)(K:Rd.rd (α:=fU) ft w ct.toList t)(O:SlR fV w uV V)(X:aP g≤1048576)(E:gY t≤1048576):
  Qz 11 #[.agg cg,.agg ct,uV] w (.bool (pB (Oz g t V))):=by
 have B:=Kz X;have Y:=Kz E;have Z:=Kz O;obtain⟨aV,kV,rfl,-,-,-⟩:=O.open;obtain⟨R,T⟩:=nm (pB (Oz g t V));rw[←T];obtain⟨C,hC⟩:=nm (pB (Mx g));have D:=Kz hC;have H:=Kz T;clear X E O T hC;have U:=Kz J;obtain⟨q,s,aL,aN,aS,aZ,bg,bq,rfl,rfl,-,bB,ah,ai,bD,aj,au⟩:=yt J;clear J;have HT:=Kz K;obtain⟨t0,bH,bK,bL,rfl,rfl,-,bN,ax,ay⟩:=K8 K;clear K
 cases C with
 |false=>
  have HF:=Kz (show R=false from H.o.trans (bz fun h=>lM D.o.symm h.1));delta Qz;go_in
  go_wp2_with (first|(go_at_call 31;refine(LW (q,s) _ (Rd.gr U.o gd) B.o).mono ?_;rintro e w' ⟨rfl,x2,rfl⟩;rw[←D.o]))
  go_ret;exact⟨aa HF.o.symm,gd⟩
 |true=>
  have I:=Kz (dx.1 D.o.symm);have ae:=Kz (show R=pB ((bU (q,s) t0).length≠0∧(bU (q,s) t0).length=V.length∧∀i (h:i<(bU (q,s) t0).length),V.getD i 0=F8 (q,s) t0 (bU (q,s) t0) V (bU (q,s) t0)[i]) from H.o.trans (iO ⟨fun h=>h.2,fun h=>⟨I.o,h⟩⟩));delta Qz;go_in
  go_wp2_with (first|(go_at_call 31;refine(LW (q,s) _ (Rd.gr U.o gd) B.o).mono ?_;rintro e w' ⟨rfl,x2,rfl⟩;rw[←D.o])|(go_at_call 32;refine(Ng (q,s) t0 V _ (Rd.gr U.o gd) (Rd.gr HT.o gd) (Z.o.gr gd) B.o Y.o I.o.2.2).mono ?_;rintro e w' ⟨rfl,x3,rfl⟩;rw[←ae.o]))
  go_ret;exact⟨aa (by rfl),gd⟩
theorem Bq{L:Int}{n:Nat}(h:¬less L n<0):(n:Int)≤L:=by
 unfold less at h
 split at h<;>omega
theorem Nl(wP wZ w9:List Nat)(cg:Array Value)(ct:Array Value)(vx:Value)(g:(af d))(t:fU)(x:List Int)(w:World)(hg:Rd.rd wP w cg.toList g)(ht:Rd.rd wZ w ct.toList t)(hx:SlR w9 w vx x):
   Qz 3 #[.agg cg,.agg ct,vx] w (.bool true):=by
 have HG:=Kz hg;have HT:=Kz ht;have HX:=Kz hx;obtain⟨q,s,B,D,E,H,rfl⟩:=nN hg;clear hg;obtain⟨X,Y,Z,rfl⟩:=rz ht;clear ht;obtain⟨ax,kx,rfl,-,-,-⟩:=hx.open;clear hx
 by_cases qE:x.length≤1048576
 · skip
   by_cases bD:less 1048576 (aP g)<0
   · skip
     have lV:=Kz bD;clear bD;delta Qz;go_in;go_wp2_with fail;refine(kI _ _ g _ _ (Rd.gr HG.o gd) (by omega) (by omega)).mono ?_;rintro e w' ⟨rfl,z0,rfl⟩;have bD:=lV.o;go_wp2_with fail;go_ret;exact⟨rfl,gd⟩
   have l5:aP g≤1048576:=by have:=Bq bD;omega
   have zX:=fD 1048576 (aP g) (by omega)
   by_cases j4:less (less 1048576 (aP g)) (gY t)<0
   · skip
     have lV:=Kz bD;have qG:=Kz j4;clear bD j4;delta Qz;go_in;go_wp2_with fail;refine(kI _ _ g _ _ (Rd.gr HG.o gd) (by omega) (by omega)).mono ?_;rintro e w' ⟨rfl,z0,rfl⟩;have bD:=lV.o;go_wp2_with fail;refine(qC _ _ t _ _ (Rd.gr HT.o gd) (by omega) (by omega)).mono ?_;rintro e w' ⟨rfl,z1,rfl⟩;have j4:=qG.o;go_wp2_with fail;go_ret;exact⟨rfl,gd⟩
   have l6:gY t≤1048576:=by have:=Bq j4;omega
   have z8:=fD (less 1048576 (aP g)) (gY t) (by omega);have lV:=Kz bD;have qG:=Kz j4;clear bD j4;delta Qz;go_in;go_wp2_with fail;refine(kI _ _ g _ _ (Rd.gr HG.o gd) (by omega) (by omega)).mono ?_;rintro e Y1 ⟨rfl,p9⟩;have bD:=lV.o;have uR:Gr w Y1:=(gd:Gr w ((w.alloc (.cells #[.slice q s B,.slice D E H] 25)).alloc (.cells #[.slice X Y Z] 28))).trans p9;have qN:Gr w Y1:=uR;have Ab:w.heap.size≤Y1.heap.size:=uR.size;have dz:Y1.cell? ⟨w.heap.size,0,none⟩=some (.slice q s B):=((gd:Gr (w.alloc (.cells #[.slice q s B,.slice D E H] 25)) ((w.alloc (.cells #[.slice q s B,.slice D E H] 25)).alloc (.cells #[.slice X Y Z] 28))).trans p9).keep (aJ (A:=_) (by simp) rfl:((w.alloc (.cells #[.slice q s B,.slice D E H] 25))).cell? ⟨w.heap.size,0,none⟩=some (.slice q s B));have ky:Y1.cell? ⟨w.heap.size,1,none⟩=some (.slice D E H):=((gd:Gr (w.alloc (.cells #[.slice q s B,.slice D E H] 25)) ((w.alloc (.cells #[.slice q s B,.slice D E H] 25)).alloc (.cells #[.slice X Y Z] 28))).trans p9).keep (aJ (A:=_) (by simp) rfl:((w.alloc (.cells #[.slice q s B,.slice D E H] 25))).cell? ⟨w.heap.size,1,none⟩=some (.slice D E H));have dA:Y1.cell? ⟨w.heap.size+1,0,none⟩=some (.slice X Y Z):=((gd:Gr ((w.alloc (.cells #[.slice q s B,.slice D E H] 25)).alloc (.cells #[.slice X Y Z] 28)) ((w.alloc (.cells #[.slice q s B,.slice D E H] 25)).alloc (.cells #[.slice X Y Z] 28))).trans p9).keep (aJ (A:=_) (by simp) rfl:(((w.alloc (.cells #[.slice q s B,.slice D E H] 25)).alloc (.cells #[.slice X Y Z] 28))).cell? ⟨w.heap.size+1,0,none⟩=some (.slice X Y Z));have xc:=blk dz;have xg:=blk dA;go_wp2_with fail;refine(qC _ _ t _ _ (Rd.gr HT.o qN) (by omega) (by omega)).mono ?_;rintro e Y2 ⟨rfl,xR⟩;have j4:=qG.o;have l7:Gr Y1 Y2:=((Gr.refl _):Gr Y1 Y1).trans xR;have lG:Gr w Y2:=qN.trans l7;have Ad:Y1.heap.size≤Y2.heap.size:=l7.size;have aj:=l7.keep dz;have dC:=l7.keep ky;have au:=l7.keep dA;have xS:=blk aj;have x9:=blk au;clear dz ky dA;go_wp2_with fail;clear bD j4;have l8:∀w':World,Gr Y2 w'→w'.cell? ⟨w.heap.size,0,none⟩=some (.slice q s B):=fun w' h=>h.keep aj
   have ma:∀w':World,Gr Y2 w'→w'.cell? ⟨w.heap.size,1,none⟩=some (.slice D E H):=fun w' h=>h.keep dC
   have mf:∀w':World,Gr Y2 w'→w'.cell? ⟨w.heap.size+1,0,none⟩=some (.slice X Y Z):=fun w' h=>h.keep au
   go_region_held3 (fun w'=>Gr Y2 w') (first|assumption|exact Gr.drew (Gr.refl _)|exact Gr.ext ‹_› _)
     (first
       |((go_at_call_of 8 q;refine(kG _ _ g _ (Rd.gr HG.o (lG.trans ‹_›)) l5).mono ?_;rintro e w' ⟨Ae,Ag,rfl,uW,yc,uZ,rfl⟩))
       |((go_at_call_of 9 X;refine(ni _ _ t _ (Rd.gr HT.o (lG.trans ‹_›)) l6).mono ?_;rintro e w' ⟨AA,AU,rfl,ve,yf,vo,rfl⟩))
       |((go_at_call_of 10 ax;refine(DI _ _ x _ (SlR.gr HX.o (lG.trans ‹_›)) qE).mono ?_;rintro e w' ⟨AZ,A8,rfl,vv,yh,vB,rfl⟩))
       |((go_at_call 7;refine(M5 g t x _ (Rd.gr uW gd) (Rd.gr ve gd) (SlR.gr vv gd) l5 l6).mono ?_;rintro e w' ⟨rfl,vC,rfl⟩)))
   have vD:Gr Y2 ((((Y2.drew.ext uZ).ext vo).ext vB).ext vC):=by assumption
   generalize((((Y2.drew.ext uZ).ext vo).ext vB).ext vC)=Y3 at vD ⊢;clear l8 ma mf;have mh:Gr Y2 Y3:=((Gr.refl _):Gr Y2 Y2).trans vD;have oN:Gr w Y3:=lG.trans mh;have Bu:Y2.heap.size≤Y3.heap.size:=mh.size;have dG:=mh.keep aj;have kz:=mh.keep dC;have dL:=mh.keep au;have ym:=blk dG;have yo:=blk dL;clear aj dC au;clear uW yc ve yf vv yh;go_wp2_with fail;refine(kG _ _ g _ (Rd.gr HG.o oN) l5).mono ?_;rintro e Y4 ⟨zC,vE,rfl,qR,oV,yu⟩;obtain⟨I,J,K,O,T,U,rfl⟩:=nN qR;have zF:Ky (vE.Nodup∧∀b∈vE,Y3.heap.size+0≤b):=Kz ⟨oV.1,fun b hb=>by have h:=oV.2 b hb;(try simp at h);omega⟩;have zx:w.heap.size≤Y3.heap.size:=Gr.size oN;have qV:=Kz qR;clear qR oV;have mo:Gr Y3 Y4:=((Gr.refl _):Gr Y3 Y3).trans yu;have oW:Gr w Y4:=oN.trans mo;have BF:Y3.heap.size≤Y4.heap.size:=mo.size;have dU:=mo.keep dG;have kE:=mo.keep kz;have dW:=mo.keep dL;have yL:=blk dU;have yN:=blk dW;clear dG kz dL;go_wp2_with fail;refine(ni _ _ t _ (Rd.gr HT.o ((oW).trans gd)) l6).mono ?_;rintro e Y5 ⟨zH,vF,rfl,qX,o9,rf⟩;obtain⟨ae,ah,ai,rfl⟩:=rz qX;have zL:Ky (vF.Nodup∧∀b∈vF,Y4.heap.size+1≤b):=Kz ⟨o9.1,fun b hb=>by have h:=o9.2 b hb;(try simp at h);omega⟩;have zy:w.heap.size≤Y4.heap.size:=Gr.size oW;have rq:=Kz qX;clear qX o9;have lq:Gr Y4 Y5:=(gd:Gr Y4 (Y4.alloc (.cells #[.slice I J K,.slice O T U] 36))).trans rf;have pG:Gr w Y5:=oW.trans lq;have BM:Y4.heap.size≤Y5.heap.size:=lq.size;have eH:=lq.keep dU;have kL:=lq.keep kE;have fe:=lq.keep dW;have fu:Y5.cell? ⟨Y4.heap.size,0,none⟩=some (.slice I J K):=((gd:Gr (Y4.alloc (.cells #[.slice I J K,.slice O T U] 36)) (Y4.alloc (.cells #[.slice I J K,.slice O T U] 36))).trans rf).keep (aJ (A:=_) (by simp) rfl:((Y4.alloc (.cells #[.slice I J K,.slice O T U] 36))).cell? ⟨Y4.heap.size,0,none⟩=some (.slice I J K));have kQ:Y5.cell? ⟨Y4.heap.size,1,none⟩=some (.slice O T U):=((gd:Gr (Y4.alloc (.cells #[.slice I J K,.slice O T U] 36)) (Y4.alloc (.cells #[.slice I J K,.slice O T U] 36))).trans rf).keep (aJ (A:=_) (by simp) rfl:((Y4.alloc (.cells #[.slice I J K,.slice O T U] 36))).cell? ⟨Y4.heap.size,1,none⟩=some (.slice O T U));have yO:=blk eH;have yQ:=blk fe;have yT:=blk fu;have rD:=Kz (Rd.gr qV.o lq);clear dU kE dW;go_wp2_with fail;refine(DI _ _ x _ (SlR.gr HX.o ((pG).trans gd)) qE).mono ?_;rintro e Y6 ⟨BR,rE,rfl,rR,pM,vI⟩;obtain⟨BU,BX,rfl,-,-,-⟩:=rR.open;have zO:Ky (rE.Nodup∧∀b∈rE,Y5.heap.size+1≤b):=Kz ⟨pM.1,fun b hb=>by have h:=pM.2 b hb;(try simp at h);omega⟩;have zz:w.heap.size≤Y5.heap.size:=Gr.size pG;have mq:=Kz rR;clear rR pM;have jN:Gr Y5 Y6:=(gd:Gr Y5 (Y5.alloc (.cells #[.slice ae ah ai] 40))).trans vI;have vU:Gr w Y6:=pG.trans jN;have Cf:Y5.heap.size≤Y6.heap.size:=jN.size;have fw:=jN.keep eH;have kS:=jN.keep kL;have fA:=jN.keep fe;have fK:=jN.keep fu;have kT:=jN.keep kQ;have gm:Y6.cell? ⟨Y5.heap.size,0,none⟩=some (.slice ae ah ai):=((gd:Gr (Y5.alloc (.cells #[.slice ae ah ai] 40)) (Y5.alloc (.cells #[.slice ae ah ai] 40))).trans vI).keep (aJ (A:=_) (by simp) rfl:((Y5.alloc (.cells #[.slice ae ah ai] 40))).cell? ⟨Y5.heap.size,0,none⟩=some (.slice ae ah ai))
   have yX:=blk fw;have yY:=blk fA;have y5:=blk fK;have y7:=blk gm;have mr:=Kz (Rd.gr rD.o jN);have mH:=Kz (Rd.gr rq.o jN);clear eH kL fe fu kQ;go_wp2_with fail;refine(MO g t x _ mr.o mH.o mq.o l5 l6).mono ?_;rintro e Y7 ⟨rfl,y8⟩;have bH:Gr Y6 Y7:=((Gr.refl _):Gr Y6 Y6).trans y8;have rT:Gr w Y7:=vU.trans bH;have Cg:Y6.heap.size≤Y7.heap.size:=bH.size;have ay:=bH.keep fw;have gB:=bH.keep kS;have aL:=bH.keep fA;have aN:=bH.keep fK;have gD:=bH.keep kT;have aS:=bH.keep gm;have y9:=blk ay;have za:=blk aL;have zb:=blk aN;have ze:=blk aS;have sw:=Kz (Rd.gr mr.o bH);have sG:=Kz (Rd.gr mH.o bH);have sH:=Kz (SlR.gr mq.o bH);clear fw kS fA fK kT gm;go_wp2_with fail;have mZ:∀w':World,Gr Y7 w'→w'.cell? ⟨w.heap.size,0,none⟩=some (.slice q s B):=fun w' h=>h.keep ay
   have nz:∀w':World,Gr Y7 w'→w'.cell? ⟨w.heap.size,1,none⟩=some (.slice D E H):=fun w' h=>h.keep gB
   have nM:∀w':World,Gr Y7 w'→w'.cell? ⟨w.heap.size+1,0,none⟩=some (.slice X Y Z):=fun w' h=>h.keep aL
   have nO:∀w':World,Gr Y7 w'→w'.cell? ⟨Y4.heap.size,0,none⟩=some (.slice I J K):=fun w' h=>h.keep aN
   have nP:∀w':World,Gr Y7 w'→w'.cell? ⟨Y4.heap.size,1,none⟩=some (.slice O T U):=fun w' h=>h.keep gD
   have nS:∀w':World,Gr Y7 w'→w'.cell? ⟨Y5.heap.size,0,none⟩=some (.slice ae ah ai):=fun w' h=>h.keep aS
   go_region_held3 (fun w'=>Gr Y7 w') (first|assumption|exact Gr.drew (Gr.refl _)|exact Gr.ext ‹_› _)
     (first
       |((go_at_call 8;refine(kG _ _ g _ (Rd.gr HG.o (rT.trans ‹_›)) l5).mono ?_;rintro e w' ⟨zf,f5,rfl,s5,sN,e1,rfl⟩))
       |((go_at_call 12;refine(yl _ _ _ _ g g _ (Rd.gr sw.o ‹_›) s5).mono ?_;rintro e w' ⟨rfl,e2,rfl⟩;rw[decide_eq_true rfl])))
   have vL:Gr Y7 ((Y7.drew.ext e1).ext e2):=by assumption
   generalize((Y7.drew.ext e1).ext e2)=Y8 at vL ⊢;clear mZ nz nM nO nP nS;have cO:Gr Y7 Y8:=((Gr.refl _):Gr Y7 Y7).trans vL;have sO:Gr w Y8:=rT.trans cO;have Ch:Y7.heap.size≤Y8.heap.size:=cO.size;have aV:=cO.keep ay;have gF:=cO.keep gB;have aZ:=cO.keep aL;have bg:=cO.keep aN;have gH:=cO.keep gD;have bq:=cO.keep aS;have zg:=blk aV;have zi:=blk aZ;have zl:=blk bg;have zm:=blk bq;have sW:=Kz (Rd.gr sG.o cO);have tJ:=Kz (SlR.gr sH.o cO);clear ay gB aL aN gD aS;clear s5 sN;go_wp2_with fail;have nZ:∀w':World,Gr Y8 w'→w'.cell? ⟨w.heap.size,0,none⟩=some (.slice q s B):=fun w' h=>h.keep aV
   have oh:∀w':World,Gr Y8 w'→w'.cell? ⟨w.heap.size,1,none⟩=some (.slice D E H):=fun w' h=>h.keep gF
   have oo:∀w':World,Gr Y8 w'→w'.cell? ⟨w.heap.size+1,0,none⟩=some (.slice X Y Z):=fun w' h=>h.keep aZ
   have oq:∀w':World,Gr Y8 w'→w'.cell? ⟨Y4.heap.size,0,none⟩=some (.slice I J K):=fun w' h=>h.keep bg
   have ow:∀w':World,Gr Y8 w'→w'.cell? ⟨Y4.heap.size,1,none⟩=some (.slice O T U):=fun w' h=>h.keep gH
   have oz:∀w':World,Gr Y8 w'→w'.cell? ⟨Y5.heap.size,0,none⟩=some (.slice ae ah ai):=fun w' h=>h.keep bq
   go_region_held3 (fun w'=>Gr Y8 w') (first|assumption|exact Gr.drew (Gr.refl _)|exact Gr.ext ‹_› _)
     (first
       |((go_at_call 9;refine(ni _ _ t _ (Rd.gr HT.o (sO.trans ‹_›)) l6).mono ?_;rintro e w' ⟨zf,f5,rfl,s5,sN,e1,rfl⟩))
       |((go_at_call 13;refine(Dw _ _ _ _ t t _ (Rd.gr sW.o ‹_›) s5).mono ?_;rintro e w' ⟨rfl,e2,rfl⟩;rw[decide_eq_true rfl])))
   have vN:Gr Y8 ((Y8.drew.ext e1).ext e2):=by assumption
   generalize((Y8.drew.ext e1).ext e2)=Y9 at vN ⊢;clear nZ oh oo oq ow oz;have jX:Gr Y8 Y9:=((Gr.refl _):Gr Y8 Y8).trans vN;have pR:Gr w Y9:=sO.trans jX;have Ci:Y8.heap.size≤Y9.heap.size:=jX.size;have gM:=jX.keep aV;have kV:=jX.keep gF;have gT:=jX.keep aZ;have ik:=jX.keep bg;have kX:=jX.keep gH;have iw:=jX.keep bq;have zn:=blk gM;have zo:=blk gT;have zt:=blk ik;have zu:=blk iw;have uh:=Kz (SlR.gr tJ.o jX);clear aV gF aZ bg gH bq;clear s5 sN;go_wp2_with fail;refine(DI _ _ x _ (SlR.gr HX.o pR) qE).mono ?_;rintro e kZ ⟨Ck,ui,rfl,um,pV,vV⟩;obtain⟨Cx,Cy,rfl,-,-,-⟩:=um.open;have zS:Ky (ui.Nodup∧∀b∈ui,Y9.heap.size+0≤b):=Kz ⟨pV.1,fun b hb=>by have h:=pV.2 b hb;(try simp at h);omega⟩;have zA:w.heap.size≤Y9.heap.size:=Gr.size pR;have qo:=Kz um;clear um pV;have bB:Gr Y9 kZ:=((Gr.refl _):Gr Y9 Y9).trans vV;have uw:Gr w kZ:=pR.trans bB;have zV:Y9.heap.size≤kZ.heap.size:=bB.size;have bK:=bB.keep gM;have j5:=bB.keep kV;have bL:=bB.keep gT;have bN:=bB.keep ik;have ku:=bB.keep kX;have bV:=bB.keep iw;have vX:=blk bK;have wm:=blk bL;have wz:=blk bN;have wF:=blk bV;have qD:=Kz (SlR.gr uh.o bB);clear gM kV gT ik kX iw;go_wp2_with fail;refine(Ed rE ui _ _ x x _ qD.o qo.o).mono ?_;rintro e uq ⟨rfl,vW⟩;rw[decide_eq_true rfl];have cK:Gr kZ uq:=((Gr.refl _):Gr kZ kZ).trans vW;have uL:Gr w uq:=uw.trans cK;have zW:kZ.heap.size≤uq.heap.size:=cK.size;have oG:=cK.keep bK;have vO:=cK.keep j5;have oH:=cK.keep bL;have oK:=cK.keep bN;have vR:=cK.keep ku;have oL:=cK.keep bV;have wI:=blk oG;have wK:=blk oH;have wN:=blk oK;have wO:=blk oL;clear bK j5 bL bN ku bV;go_wp2_with fail;go_ret;exact⟨rfl,uL⟩
 · delta Qz;go_in
   go_wp2_with fail;go_ret;exact⟨rfl,gd⟩
end Go.Proofs.YtdhighcpmcdmmaaGreat
