/- Contracts and laws towards ReadsOf, part 44 of 54. No condition. -/
import Derived.Test.YtdhighcpmcdmmaaGreatFx43
set_option maxHeartbeats 32000000
set_option maxRecDepth 10000
set_option linter.unusedVariables false
set_option linter.unusedSimpArgs false
namespace Go.Proofs.YtdhighcpmcdmmaaGreat
open Go.RowKit
open _root_.Nat (le_refl)
variable{d:Nat}
def NS(n:Nat):Prop:=∀(fx s B:List Nat) (cx:Array Value) (us q:Value) (x:GE n) (S:List gV) (lit:Int) (h:List Int) (w:World) (D:Rd.rd fx w cx.toList x) (E:SlR s w us S) (H:SlR B w q h) (I:jh (fun{d} y=>LdP y) n x),
 Calls Tryz.prog 129 #[.agg cx,us,.int .i64 lit,q] w fun e w'=>e=.returned (.int .i64 (mE S lit h n x))∧Gr w w'
theorem Nk{n:Nat}(hE:NS n):NS (n+1):=by
 intro fx fs fi cx us ui x S lit q w hx hs hi hn
 have HE:=Kz hE;obtain⟨q0,q1,q2,q3,q4,q5,q6⟩:=(x:aA n);obtain⟨fw,fA,rfl,-,dL,dU,bD,dW,eH,bH,aZ⟩:=aF q0 q1 q2 q3 q4 q5 q6 (show Rd.rd (α:=aA n) fx w cx.toList _ from hx);obtain⟨fK,bK,rfl,-,-,-⟩:=aZ.open;have aj:=Kz aZ;have bL:=Kz (And.intro bD bH);have HS:=Kz hs;have HI:=Kz hi;have D:=Kz (And.intro hn.1 hn.2);have fu:1≤q0∧q0≤8:=hn.1.1;obtain⟨aS,ks,rfl,-,-,-⟩:=hs.open;obtain⟨ai,ki,rfl,-,gm,bN⟩:=hi.open;clear hE hx aZ dL dU bD dW eH bH hn hs hi;rcases(show q0=1∨q0=2∨q0=3∨q0=4∨q0=5∨q0=6∨q0=7∨q0=8 by omega) with h|h|h|h|h|h|h|h
 ·subst h
  simp only[Oc];go_in;go_wp2_with fail;go_ret;exact⟨rfl,gd⟩
 ·subst h
  simp only[N8];go_in;go_wp2_with fail;go_ret;exact⟨rfl,gd⟩
 ·subst h
  simp only[NK];go_in
  go_wp2_with (first|(go_at_call 194;refine(MC S (q2,q5) _ (HS.o.gr gd) (bO q2 q5 bL.o.1 bL.o.2)).mono ?_;rintro e w' ⟨rfl,x1,rfl⟩))
  go_ret;exact⟨rfl,gd⟩
 ·subst h
  obtain⟨H,I,rfl⟩:=D.o.1.two rfl;simp only[Ob];obtain⟨va,K⟩:=nm (mE S lit q n H);obtain⟨vb,O⟩:=nm (mE S lit q n I);rw[←K,←O];obtain⟨s,co,c0,c1,c2,c3,c4,c5,c6,cf,cq,-,cr,-,T,au,ax,ay,aL,aN,aV⟩:=cB (xs:=[H,I]) aj.o (k:=0) (by simp);subst cq;rw[Nat.zero_mul,Nat.add_zero] at T au ax ay aL aN aV;have cr:=Kz (show Rd.rd cf w [c0,c1,c2,c3,c4,c5,c6] H from cr);have zc:=blk T;obtain⟨eb,eo,e0,e1,e2,e3,e4,e5,e6,ef,eq,-,er,-,J,U,X,Y,Z,ae,ah⟩:=cB (xs:=[H,I]) aj.o (k:=1) (by simp)
  obtain⟨rfl,rfl⟩:s=eb∧co=eo:=by
   injection eq with h;injection h with h1 h2;exact⟨h1,h2⟩
  clear eq;replace J:w.cell? ⟨s,co+7,none⟩=some e0:=J;replace U:w.cell? ⟨s,co+7+1,none⟩=some e1:=U;replace X:w.cell? ⟨s,co+7+2,none⟩=some e2:=X;replace Y:w.cell? ⟨s,co+7+3,none⟩=some e3:=Y;replace Z:w.cell? ⟨s,co+7+4,none⟩=some e4:=Z;replace ae:w.cell? ⟨s,co+7+5,none⟩=some e5:=ae;replace ah:w.cell? ⟨s,co+7+6,none⟩=some e6:=ah;have er:=Kz (show Rd.rd ef w [e0,e1,e2,e3,e4,e5,e6] I from er);have ze:=blk J;have HA:=Kz (fun(W:World) (g:Gr w W)=>(show Calls Tryz.prog 129 #[.agg #[c0,c1,c2,c3,c4,c5,c6],.slice aS S.length ks,.int .i64 lit,.slice ai q.length ki] W fun e w'=>e=.returned (.int .i64 va)∧Gr W w' from by rw[K];exact HE.o cf fs fi #[c0,c1,c2,c3,c4,c5,c6] _ _ H S lit q W (Rd.gr cr.o g) (HS.o.gr g) (HI.o.gr g) (D.o.2 H (by simp))));have HB:=Kz (fun(W:World) (g:Gr w W)=>(show Calls Tryz.prog 129 #[.agg #[e0,e1,e2,e3,e4,e5,e6],.slice aS S.length ks,.int .i64 lit,.slice ai q.length ki] W fun e w'=>e=.returned (.int .i64 vb)∧Gr W w' from by rw[O];exact HE.o ef fs fi #[e0,e1,e2,e3,e4,e5,e6] _ _ I S lit q W (Rd.gr er.o g) (HS.o.gr g) (HI.o.gr g) (D.o.2 I (by simp))));clear K O;go_in
  go_upto_region 9 with fail
  obtain⟨B,hB⟩:=nm (w.alloc (.cells #[.int .i64 4,.int .i64 q1,.int .i64 q2,.int .i64 q3,.string q4,.string q5,.slice (some ⟨s,co,none⟩) 2 bK] 115));rw[←hB];have E:Gr w B:=by rw[hB];exact gd
  have b1:B.cell? ⟨w.heap.size,1,none⟩=some (.int .i64 q1):=by rw[hB];exact aJ rfl rfl
  have b6:B.cell? ⟨w.heap.size,6,none⟩=some (.slice (some ⟨s,co,none⟩) 2 bK):=by rw[hB];exact aJ rfl rfl
  have zb:=blk b1;have bg:=Kz E;clear hB;have a0:=E.keep T;have a1:=E.keep au;have a2:=E.keep ax;have a3:=E.keep ay;have a4:=E.keep aL;have a5:=E.keep aN;have a6:=E.keep aV;have d0:=E.keep J;have d1:=E.keep U;have d2:=E.keep X;have d3:=E.keep Y;have d4:=E.keep Z;have d5:=E.keep ae;have d6:=E.keep ah;have za:=blk a0;clear T au ax ay aL aN aV J U X Y Z ae ah;refine wg ?_
  repeat(go_big_quiet_step (first|(go_at_call 129;first|with_reducible exact aG (HA.o _ (tg bg))|with_reducible exact aG (HB.o _ (tg bg)))|(go_at_call 195;exact aG (CV _ _ _ _))))
  refine wq fun nx=>?_
  go_wp2_with fail;go_ret;exact⟨rfl,bg.o.trans gd⟩
 ·subst h
  obtain⟨H,I,xc,rfl⟩:=D.o.1.three rfl;simp only[N9];obtain⟨va,K⟩:=nm (mE S lit q n H);obtain⟨vb,O⟩:=nm (mE S lit q n I);obtain⟨vc,bq⟩:=nm (mE S lit q n xc);rw[←K,←O,←bq];obtain⟨s,co,c0,c1,c2,c3,c4,c5,c6,cf,cq,-,cr,-,T,au,ax,ay,aL,aN,aV⟩:=cB (xs:=[H,I,xc]) aj.o (k:=0) (by simp);subst cq;rw[Nat.zero_mul,Nat.add_zero] at T au ax ay aL aN aV;have cr:=Kz (show Rd.rd cf w [c0,c1,c2,c3,c4,c5,c6] H from cr);have zc:=blk T;obtain⟨eb,eo,e0,e1,e2,e3,e4,e5,e6,ef,eq,-,er,-,J,U,X,Y,Z,ae,ah⟩:=cB (xs:=[H,I,xc]) aj.o (k:=1) (by simp)
  obtain⟨rfl,rfl⟩:s=eb∧co=eo:=by
   injection eq with h;injection h with h1 h2;exact⟨h1,h2⟩
  clear eq;replace J:w.cell? ⟨s,co+7,none⟩=some e0:=J;replace U:w.cell? ⟨s,co+7+1,none⟩=some e1:=U;replace X:w.cell? ⟨s,co+7+2,none⟩=some e2:=X;replace Y:w.cell? ⟨s,co+7+3,none⟩=some e3:=Y;replace Z:w.cell? ⟨s,co+7+4,none⟩=some e4:=Z;replace ae:w.cell? ⟨s,co+7+5,none⟩=some e5:=ae;replace ah:w.cell? ⟨s,co+7+6,none⟩=some e6:=ah;have er:=Kz (show Rd.rd ef w [e0,e1,e2,e3,e4,e5,e6] I from er);have ze:=blk J;obtain⟨mb,mo,m0,m1,m2,m3,m4,m5,m6,mf,mq,-,mr,-,bB,bV,cK,cO,dz,dA,dC⟩:=cB (xs:=[H,I,xc]) aj.o (k:=2) (by simp)
  obtain⟨rfl,rfl⟩:s=mb∧co=mo:=by
   injection mq with h;injection h with h1 h2;exact⟨h1,h2⟩
  clear mq;replace bB:w.cell? ⟨s,co+14,none⟩=some m0:=bB;replace bV:w.cell? ⟨s,co+14+1,none⟩=some m1:=bV;replace cK:w.cell? ⟨s,co+14+2,none⟩=some m2:=cK;replace cO:w.cell? ⟨s,co+14+3,none⟩=some m3:=cO;replace dz:w.cell? ⟨s,co+14+4,none⟩=some m4:=dz;replace dA:w.cell? ⟨s,co+14+5,none⟩=some m5:=dA;replace dC:w.cell? ⟨s,co+14+6,none⟩=some m6:=dC;have mr:=Kz (show Rd.rd mf w [m0,m1,m2,m3,m4,m5,m6] xc from mr);have zm:=blk bB;have HA:=Kz (fun(W:World) (g:Gr w W)=>(show Calls Tryz.prog 129 #[.agg #[c0,c1,c2,c3,c4,c5,c6],.slice aS S.length ks,.int .i64 lit,.slice ai q.length ki] W fun e w'=>e=.returned (.int .i64 va)∧Gr W w' from by rw[K];exact HE.o cf fs fi #[c0,c1,c2,c3,c4,c5,c6] _ _ H S lit q W (Rd.gr cr.o g) (HS.o.gr g) (HI.o.gr g) (D.o.2 H (by simp))));have HB:=Kz (fun(W:World) (g:Gr w W)=>(show Calls Tryz.prog 129 #[.agg #[e0,e1,e2,e3,e4,e5,e6],.slice aS S.length ks,.int .i64 lit,.slice ai q.length ki] W fun e w'=>e=.returned (.int .i64 vb)∧Gr W w' from by rw[O];exact HE.o ef fs fi #[e0,e1,e2,e3,e4,e5,e6] _ _ I S lit q W (Rd.gr er.o g) (HS.o.gr g) (HI.o.gr g) (D.o.2 I (by simp))));have HC:=Kz (fun(W:World) (g:Gr w W)=>(show Calls Tryz.prog 129 #[.agg #[m0,m1,m2,m3,m4,m5,m6],.slice aS S.length ks,.int .i64 lit,.slice ai q.length ki] W fun e w'=>e=.returned (.int .i64 vc)∧Gr W w' from by rw[bq];exact HE.o mf fs fi #[m0,m1,m2,m3,m4,m5,m6] _ _ xc S lit q W (Rd.gr mr.o g) (HS.o.gr g) (HI.o.gr g) (D.o.2 xc (by simp))));clear K O bq
  by_cases h0:va=0
  ·have fe:(va !=0)=false:=by simp[h0]
   rw[if_pos h0];clear h0;go_in;go_wp2_with fail;refine(HA.o _ gd).mono ?_;rintro e w' ⟨rfl,ya,rfl⟩;go_wp2_with fail;refine(HC.o _ gd).mono ?_;rintro e w' ⟨rfl,yc,rfl⟩;go_wp2_with fail;go_ret;exact⟨rfl,gd⟩
  ·have fe:(va !=0)=true:=by simpa using h0
   rw[if_neg h0];clear h0;go_in;go_wp2_with fail;refine(HA.o _ gd).mono ?_;rintro e w' ⟨rfl,ya,rfl⟩;go_wp2_with fail;refine(HB.o _ gd).mono ?_;rintro e w' ⟨rfl,yb,rfl⟩;go_wp2_with fail;go_ret;exact⟨rfl,gd⟩
 ·subst h
  have h2:0≤q2:=D.o.1.2.2 rfl;obtain⟨j,rfl⟩:∃j:Nat,q2=j:=⟨q2.toNat,by omega⟩;simp only[Oj,Int.toNat_natCast]
  by_cases hj:j<q.length
  ·obtain⟨b9,o9,rfl,gD⟩:=bN j hj
   have c9:=(HI.o.fQ hj).1;have e9:q.getD j 0=q[j]:=by rw[List.getD_eq_getElem?_getD,List.getElem?_eq_getElem hj];rfl
   rw[e9];obtain⟨IV,dG⟩:=nm (q[j]);rw[←dG] at c9 ⊢;have j0:(0:Int)≤(j:Int):=by omega
   have j1:(j:Int)<(q.length:Int):=by omega
   have iw:IntKind.i64.wrap ((q.length:Int) - 1)=(q.length:Int) - 1:=IntWalk.i64_in _ (by omega);have z9:=blk c9;clear e9 dG bN;go_in
   go_wp2_with (first|(go_at_call 86;refine(fJ (j:Int) 0 _ _ (by omega) (by omega)).mono ?_;rintro e w' ⟨rfl,x1,rfl⟩))
   go_ret;exact⟨rfl,gd⟩
  ·have e9:q.getD j 0=0:=by rw[List.getD_eq_getElem?_getD,List.getElem?_eq_none (by omega)];rfl
   rw[e9];have iw:IntKind.i64.wrap ((q.length:Int) - 1)=(q.length:Int) - 1:=IntWalk.i64_in _ (by omega);clear e9;go_in
   go_wp2_with (first|(go_at_call 86;refine(eu (j:Int) 0 _ _ (by omega)).mono ?_;rintro e w' ⟨rfl,x1,rfl⟩))
   go_ret;exact⟨rfl,gd⟩
 ·subst h
  simp only[Om];go_in;go_wp2_with fail;go_ret;exact⟨rfl,gd⟩
 ·subst h
  simp only[Oo];go_in;go_wp2_with fail;go_ret;exact⟨rfl,gd⟩
theorem LX:(n:Nat)→NS n
 |0=>by intro fx h q cx us s x;exact PEmpty.elim x
 |n+1=>Nk (LX n)
theorem Nc(fx J K:List Nat)(cx:Array Value)(us s:Value)(x:aA d)(S:List gV)(lit:Int)(q:List Int)(w:World)(B:Rd.rd fx w cx.toList x)(E:SlR J w us S)(H:SlR K w s q)(O:ak x≤1048576):
  Qz 63 #[.agg cx,us,.int .i64 lit,s] w (.int .i64 (if pB (Da x)=true then mE S lit q (d+1) x else 0)):=by
 have T:=Kz B;have U:=Kz O;obtain⟨V,I⟩:=nm (mE S lit q (d+1) x);obtain⟨C,D⟩:=nm (pB (Da x));rw[←I,←D];have X:=Kz D;have Z:=Kz (fun(h:C=true) (W:World) (g:Gr w W)=>(show Calls Tryz.prog 129 #[.agg cx,us,.int .i64 lit,s] W fun e w'=>e=.returned (.int .i64 V)∧Gr W w' from by rw[I];exact LX (d+1) fx J K cx us s x S lit q W (Rd.gr B g) (E.gr g) (H.gr g) (Ny (dx.1 (D.symm.trans h)))));obtain⟨x0,x1,x2,x3,x4,x5,ax,lx,kx,rfl⟩:=eO B;obtain⟨aS,ks,rfl,-,-,-⟩:=E.open;obtain⟨ai,ki,rfl,-,-,-⟩:=H.open;clear B E H O I D
 cases C with
 |true=>
  have Y:=Kz (Z.o rfl);delta Qz;go_in
  go_wp2_with (first|(go_at_call 128;refine(qM _ _ x _ (Rd.gr T.o gd) U.o).mono ?_;rintro e w' ⟨rfl,y1,rfl⟩;rw[←X.o])|(go_at_call 129;refine(Y.o _ gd).mono ?_;rintro e w' ⟨rfl,y2,rfl⟩))
  go_ret;exact⟨rfl,gd⟩
 |false=>
  delta Qz;go_in
  go_wp2_with (first|(go_at_call 128;refine(qM _ _ x _ (Rd.gr T.o gd) U.o).mono ?_;rintro e w' ⟨rfl,y1,rfl⟩;rw[←X.o]))
  go_ret;exact⟨rfl,gd⟩
set_option maxRecDepth 100000 in
theorem Ak{ft:List Nat}{ct:Array Value}(t:fU)(i:Int)(w:World)(ht:Rd.rd ft w ct.toList t)(hl:gY t≤1048576):
  Calls Tryz.prog 65 #[.agg ct,.int .i64 i] w (p8 w (iB t i)):=by
 obtain⟨i0,hi⟩:=info_parts Tryz.kJ;have E:=Kz hi;clear hi;have bK:=Kz hl;clear hl;obtain⟨t0,jX,aj,j4,rfl,rfl,-,J,gH,gM⟩:=K8 ht;have bB:=J.op3;clear ht
 by_cases K:0≤i∧i≤(t0.length:Int) - 1
 ·obtain⟨m,rfl⟩:∃m:Nat,i=m:=⟨i.toNat,by omega⟩
  have h:m<t0.length:=by omega
  have au:=Kz K;have O:=Ah bK.o h;have T:=Bg h;obtain⟨b,off,rfl,j5⟩:=bB m h;obtain⟨q0,q1,q2,q3,q4,q5,ku,ky,kz,kE,ax,kL,ay,bN,bV,cK,cO,U,gT,ik,dz,kQ,kS,kT,kV,aL,kX⟩:=KZ J h (Gr.refl _);have bD:=U.op3;rw[←ax.o] at O T;have dA:=Kz U;have dC:=Kz ay;have dG:=Kz T;have kZ:q5.length≤1048576:=O;have X:KI t0 (m:Int)=[q0]:=by rw[wo h,←ax.o]
  have bH:=Kz X;have lq:(0:Int)≤(m:Int):=by omega
  have lG:(m:Int)<(t0.length:Int):=by omega
  clear T K U ay bN bV cK cO X O;go_in;go_wp2_with fail;generalize hB:(w.alloc (.cells #[.slice (some ⟨b,off,none⟩) t0.length aj] 40))=B;have Y:Gr w B:=gb hB;have aN:=kb hB (w.heap.size) 0 (.slice (some ⟨b,off,none⟩) t0.length aj);have sB:B.heap.size=w.heap.size+1:=szB hB;clear hB;have y0:=aN _ (Gr.refl _);refine(fJ (m:Int) 0 _ _ au.o.1 au.o.2).mono ?_;rintro e w' ⟨rfl,x1,rfl⟩;have lV:=Y.keep dz;have l5:=Y.keep aL;have aS:bE (α:=Int) B 3 ((B.alloc (.cells #[] 3)).ext x1) (.slice (some ⟨w.heap.size+1,0,none⟩) 0 0) [] []:=(bE.kF (α:=Int) (w0:=B) (w:=B) 3 (le_refl _) (show w.heap.size+1=B.heap.size by omega)).gr gd;have dL:=Kz aS;clear aS
  go_wp2_with (first|(at_builtin;refine bP (α:=Int) (w0:=B) gd rfl _ _ 29 rfl 3 i0 (.int .i64 0) 8 Tryz.underlying29 E.o.1 E.o.2.1 E.o.2.2.1 E.o.2.2.2 rfl _ [] [] (by rfl) (dL.o.gr gd) _ [[]] [q0] (by rfl) (eT.one (by simp<;>omega) (rO dC.o _)) (fun b _=>by simp) (by unfold maxLen;simp) (by simp) ?_;intro v9 w9 k1 k2 k3 k4;replace k1:=Kz k1;replace k4:=Kz k4;clear k2 k3))
  go_loopw [6,5] (fun s6 s5 wr=>∃(k:Nat) (fps:List (List Nat)),k≤q5.length∧Ky (fps.flatten=[])∧Gr B wr∧bE (α:=Int) B 3 wr s5 fps (((m:Int)::q5.take k).flatMap (KI t0))∧s6=.int .i64 k) (fun s6 _ _=>q5.length - (intOf s6).toNat)
  case atStart=>exact⟨0,[[]],by omega,Kz rfl,k4.o,by rw[List.take_zero,List.flatMap_cons,bH.o];exact k1.o,rfl⟩
  case round=>
   obtain⟨k,fps,hk,HF,hg,hown,rfl⟩:=hrel
   rename World=>W3
   have Z:=Kz hg;have HO:=Kz hown;obtain⟨ra,l6,H⟩:=hown.form;obtain⟨M,hM⟩:=nm (((m:Int)::q5.take k).flatMap (KI t0))
   have l7:M.length≤1048577:=by
    have:=ES t0 ((m:Int)::q5.take k);rw[←hM,List.length_cons,List.length_take] at this;omega
   rw[←hM] at H;have q:=Kz hM;have y1:=aN _ hg;have l8:=blk y1;have D:=Y.trans hg;have dU:=D.keep aL;have ma:=blk dU;have aV:=Kz D;subst H;clear hg hown hM D
   by_cases ae:k<q5.length
   ·obtain⟨c,hc⟩:=nm (q5[k])
    obtain⟨bL,oL,rfl,mf⟩:=bD k ae;have cL:=aV.o.keep (dA.o.fQ ae).1;rw[←hc] at cL;have aZ:((m:Int)::q5.take (k+1)).flatMap (KI t0)=M++KI t0 c:=by rw[List.take_succ_eq_append_getElem ae,←List.cons_append,List.flatMap_append,←q.o,←hc];simp
    have bg:=Kz aZ;have j0:(0:Int)≤(k:Int):=by omega
    have j1:(k:Int)<(q5.length:Int):=by omega
    clear hc aZ
    by_cases hc:0≤c∧c≤(t0.length:Int) - 1
    ·obtain⟨n,rfl⟩:∃n:Nat,c=n:=⟨c.toNat,by omega⟩
     have h:n<t0.length:=by omega
     have HC:=Kz hc;have D:=aV.o;obtain⟨p0,p1,p2,p3,p4,p5,mh,mo,mq,mr,dW,mH,bq,eH,fe,fu,fw,fA,iw,jN,mZ,nz,nM,nO,nP,nS,nZ⟩:=KZ J h D;have fK:=Kz bq;have oh:(0:Int)≤(n:Int):=by omega
     have oo:(n:Int)<(t0.length:Int):=by omega
     have ah:KI t0 (n:Int)=[p0]:=by rw[wo h,←dW.o]
     have ai:=Kz ah;clear ah D bq eH fe fu fw fA hc;go_wp2_with fail;refine(fJ (n:Int) 0 _ _ HC.o.1 HC.o.2).mono ?_;rintro e w' ⟨rfl,x4,rfl⟩
     go_wp2_with (first|(at_builtin;refine bP (α:=Int) (w0:=B) (tg Z) rfl _ _ 29 rfl 3 i0 (.int .i64 0) 8 Tryz.underlying29 E.o.1 E.o.2.1 E.o.2.2.1 E.o.2.2.2 rfl _ fps _ (by rfl) (HO.o.gr gd) _ [[]] [p0] (by rfl) (eT.one (by simp) (rO fK.o _)) (fun b _=>by simp) (by rw[←q.o];unfold maxLen;simp;omega) (by rw[←q.o];simp;omega) ?_;intro v3 w3 I h2 h3 h4;replace I:=Kz I;replace h4:=Kz h4;clear h2 h3))
     refine⟨⟨k+1,fps++[[]],by omega,Kz (by rw[List.flatten_append,HF.o];rfl),h4.o,?_,by go_num⟩,by simp[intOf];omega⟩;rw[bg.o,ai.o,q.o];exact I.o
    ·have s:c<0∨(t0.length:Int) - 1<c:=by omega
     have HC:=Kz s;have ai:=Kz (BK s);clear s hc;go_wp2_with fail;refine(eu c 0 _ _ HC.o).mono ?_;rintro e w' ⟨rfl,x4,rfl⟩;go_wp2_with fail;refine⟨⟨k+1,fps,by omega,HF,Z.o.trans gd,?_,by go_num⟩,by simp[intOf];omega⟩;rw[bg.o,ai.o,List.append_nil];have I:=HO.o;rw[←q.o] at I;exact I.gr gd
   ·have gm:k=q5.length:=by omega
    subst gm;have gD:=HO.o.fresh (by rw[←q.o];unfold bn;omega) (by rw[HF.o];exact aY.nil _);obtain⟨fq,hs,hf⟩:=gD;rw[←q.o] at hs;have HS:=Kz hs;have gF:=Kz (hf.of_le Y.size);have hN:iB t0 (m:Int)=M:=by rw[dG.o,q.o,List.take_length]
    have HN:=Kz hN;clear hs hf hN;go_wp2_with fail;go_ret;exact⟨_,fq,rfl,by rw[HN.o];exact HS.o.gr gd,gF.o,Y.trans (tg Z)⟩
 ·have s:i<0∨(t0.length:Int) - 1<i:=by omega
  have HO:=Kz s;have HN:=Kz (BL s);clear s K;go_in;go_wp2_with fail;refine(eu i 0 _ _ HO.o).mono ?_;rintro e w' ⟨rfl,x1,rfl⟩;go_wp2_with fail;go_ret;exact⟨_,[],rfl,by rw[HN.o];exact⟨_,0,rfl,by simp,by simp,.inl ⟨rfl,rfl⟩⟩,aY.nil _,gd⟩
set_option maxRecDepth 100000 in
theorem Na{fg:List Nat}{cg:Array Value}(g:af d)(n:ByteArray)(w:World)(hg:Rd.rd fg w cg.toList g)(hl:aP g≤1048576):
  Calls Tryz.prog 209 #[.agg cg,.string n] w (p8 w (LU g n)):=by
 obtain⟨i0,hi⟩:=info_parts Tryz.MM;have X:=Kz hi;clear hi;have gD:=Kz hl;clear hl;have HG:=Kz hg;obtain⟨Z,g1,bV,cK,ma,cO,dz,mf,rfl,rfl,-,mh,kT,kV,mo,kX,kZ⟩:=yt hg;clear hg;obtain⟨Y,hY⟩:=nm ((bW Z n).getD dE);have gF:=Kz (show Y.2.length≤1048576 by rw[hY];exact tX gD.o n);have fK:=Kz (show LU (Z,g1) n=wL Y.2 by rw[hY];rfl);have gH:=Kz hY;clear hY;go_in
 go_upto_region 2 with fail
 obtain⟨B,hB⟩:=nm (w.alloc (.cells #[.slice bV Z.length cK,.slice cO g1.length dz] 36));rw[←hB];have gB:Gr w B:=by rw[hB];exact gd
 have b0:B.cell? ⟨w.heap.size,0,none⟩=some (.slice bV Z.length cK):=by rw[hB];exact aJ rfl rfl
 have b1:B.cell? ⟨w.heap.size,1,none⟩=some (.slice cO g1.length dz):=by rw[hB];exact aJ rfl rfl
 have gM:B.heap.size=w.heap.size+1:=by rw[hB];simp
 clear hB;obtain⟨W1,ae⟩:=nm (B.alloc (.cells #[] 81));rw[←ae];have au:=Kz (show Gr B W1 by rw[ae];exact gd);have HO:=Kz (show bE (α:=aQ) B 81 W1 (.slice (some ⟨w.heap.size+1,0,none⟩) 0 0) [] [] by rw[ae];exact bE.kF (α:=aQ) (w0:=B) (w:=B) 81 (le_refl _) gM.symm);have mq:W1.heap.size=w.heap.size+2:=by rw[ae];simp;omega
 have y0:=au.o.keep b0;have y1:=au.o.keep b1;have gT:=blk y0;have dA:=Kz (gB.trans au.o);have dC:=Kz gB;clear ae b0 b1 gB
 go_cut [6] (fun sp wx=>mK w W1 Y sp wx)
 case first=>
  go_wp2_with (first|(go_at_call 94;refine(dY (Z,g1) n _ (Rd.gr HG.o (dA.o.trans ga))).mono ?_;rintro e w' ⟨es,fq,rfl,hr,dG,x3,rfl⟩;obtain⟨s0,s1,aS,aV,ah,aZ,rfl,ik,iw,ai,lq,lG⟩:=Lg (x:=(bW Z n).getD dE) hr;have jN:=Kz aZ;have mr:=Lt aZ hr;have bg:=ai.op3;clear hr aZ;obtain⟨bb,bB⟩:∃b:Bool,b=(bW Z n).isSome:=⟨_,rfl⟩;rw[←bB];have mH:=Kz bB;clear bB;have jX:=Kz dG;clear dG))
  all_goals
   go_meet;have hY:Y=(s0,s1):=gH.o.trans jN.o.symm;subst hY;have lV:=dA.o.size;have ax:∀c∈ah,c<w.heap.size∨_≤c:=fun c hc=>(jX.o c (by rw[ik.o];simpa using hc)).imp (Rd.lt HG.o c) id
   refine⟨_,.slice aS s1.length aV,ah,rfl,gd,?_,?_,?_,iw,by first|omega|(simp;done)|(simp;omega),fun c hc=>(ax c hc).imp id (fun h=>by first|omega|(simp at h;omega))⟩
   ·go_simp
   ·go_simp
   ·first
     |(refine ai.gr ?_;(repeat(first|exact Gr.refl _|apply Gr.ext|apply Gr.alloc|apply Gr.drew));done)
     |((with_reducible refine ai.mono (dO ?_));exact fun c hc e=>by subst e;have:=ax _ hc;simp at this;omega)
     |((with_reducible refine ai.mono (dM ?_));exact fun c hc e=>by subst e;have:=ax _ hc;simp at this;omega)
     |((with_reducible refine ai.mono (iR ?_));exact fun c hc e=>by subst e;have:=ax _ hc;simp at this;omega)
 case rest=>
  obtain⟨gb,v8,ah,rfl,g2,d0,dL,dU,mZ,j4,dW⟩:=hcut;obtain⟨s0,s1⟩:=Y;obtain⟨aS,aV,rfl,-,-,-⟩:=dU.open
  rename World=>W2
  have j5:=Kz (show s1.length≤1048576 from gF.o);have l5:s1.length≤1048576:=j5.o;have ku:=Kz (au.o.trans g2);have ky:=Kz (HO.o.gr g2);have kz:=Kz dL;have kE:=Kz dU
  have gm:=Kz (show∀b∈(Value.slice (some ⟨w.heap.size+1,0,none⟩) 0 0).ownBlock.toList,b≠gb∧b∉ah from fun b q=>by
   have H:b=w.heap.size+1:=by first|(simpa[Value.ownBlock] using q.symm)|(simp[Value.ownBlock] at q;omega)
   exact⟨by omega,fun hm=>by have:=dW b hm;omega⟩)
  have nz:=blk dL;clear y0 y1 gT dW g2 j4 d0;go_wp2_with fail
  go_loopw [20,5] (fun s8 s5 wr=>∃j:Nat,j≤s1.length∧OfA B gb (.slice aS s1.length aV) ah s1 (wL (s1.take j)) s5 wr∧s8=.int .i64 j) (fun s8 _ _=>s1.length - (intOf s8).toNat)
  case atStart=>exact⟨0,by omega,⟨[],rfl,ku.o,ky.o,kz.o,kE.o,gm.o⟩,rfl⟩
  case round=>
   obtain⟨j,hj,⟨E,bD,eH,hown,fe,bH,bK⟩,rfl⟩:=hrel;obtain⟨D,O⟩:=nm (wL (s1.take j));rw[←O] at hown
   have l6:D.length≤1048576:=by
    have H:=Lv (s1.take j);have T:(s1.take j).length≤s1.length:=by rw[List.length_take];omega
    rw[O];omega
   have U:=Kz O;have ay:=Kz bD;have I:=Kz eH;have aL:=Kz fe;have J:=Kz bH;have s:=Kz bK;clear bD eH fe bH bK O
   rename World=>W3
   have aN:=Kz hown;obtain⟨rb,rd,bN⟩:=hown.form;subst bN;have c3:=aL.o;have nM:=blk c3;clear hown
   by_cases aj:j<s1.length
   ·have bL:=J.o
    obtain⟨a',c',he,o1,o2,bg⟩:=bL.open;injection he with e1 e2 e3;subst e1 e3;obtain⟨bq,l7,rfl,l8⟩:=bg j aj;obtain⟨q0,q1,q2,q3,K,nO,fu,fw,fA,nP,nS,nZ,oh,oo⟩:=K5 bL aj (Gr.refl _);have HQ:=Kz (And.intro fu (And.intro fw fA));have j0:(0:Int)≤(j:Int):=by omega
    have j1:(j:Int)<(s1.length:Int):=by omega
    have oq:=zI1 j (by omega);clear fu fw fA bL
    by_cases hm:q2=1
    ·have kL:(q2==1)=true:=by simp[hm]
     have HX:=Kz (show wL (s1.take (j+1))=D++[(q0,q1,q2,q3)] by rw[LH aj (.inl (by rw[←K.o];exact hm)),←K.o,U.o]);clear hm
     go_wp2_with (first|(at_builtin;refine eU (α:=aQ) (wg:=B) (w0:=B) (tg I) (le_refl _) (tg I).size rfl _ _ 102 rfl 81 i0 _ _ Tryz.underlying102 X.o.1 X.o.2.1 X.o.2.2.1 X.o.2.2.2 rfl _ E D (by rfl) (aN.o.gr gd) _ [[]] [(q0,q1,q2,q3)] (by rfl) (eT.one (by simp) (jk q0 q1 q2 q3 HQ.o.1 HQ.o.2.1 HQ.o.2.2)) (fun b _=>by simp) (by unfold maxLen;simp;omega) (by simp;omega) ?_;intro v3 w3 H T h3 h4;have K1:=Kz H;have K4:=Kz h4;have K2:=Kz ((show Gr W3 _ from gd).eF _ |>.trans T);have K3:=Kz (show∀b∈v3.ownBlock.toList,b∈(Value.slice rb D.length rd).ownBlock.toList∨W3.heap.size≤b from fun b q=>h3.elim (fun e=>.inl (by rw[e] at q;exact q)) (fun e=>.inr (by rw[e] at q;simp at q;omega)));clear H T h3 h4))
     refine⟨⟨j+1,by omega,⟨E++[[]],by rw[List.flatten_append,ay.o];rfl,K4.o,by rw[HX.o];exact K1.o,K2.o.aO aL.o (fun hm=>(s.o _ hm).1 rfl),J.o.wr K2.o (fun b q hm=>(s.o b hm).2 q),fun b q=>?_⟩,by go_num⟩,by simp[intOf];omega⟩;rcases K3.o b q with h|h
     ·exact s.o b h
     ·have h9:=J.o.lt
      exact⟨by omega,fun hm=>by have:=h9 b hm;omega⟩
    ·have kL:(q2==1)=false:=by simpa using hm
     by_cases hk:q2=2
     ·have kQ:(q2==2)=true:=by simp[hk]
      have HX:=Kz (show wL (s1.take (j+1))=D++[(q0,q1,q2,q3)] by rw[LH aj (.inr (by rw[←K.o];exact hk)),←K.o,U.o]);clear hm hk
      go_wp2_with (first|(at_builtin;refine eU (α:=aQ) (wg:=B) (w0:=B) (tg I) (le_refl _) (tg I).size rfl _ _ 102 rfl 81 i0 _ _ Tryz.underlying102 X.o.1 X.o.2.1 X.o.2.2.1 X.o.2.2.2 rfl _ E D (by rfl) (aN.o.gr gd) _ [[]] [(q0,q1,q2,q3)] (by rfl) (eT.one (by simp) (jk q0 q1 q2 q3 HQ.o.1 HQ.o.2.1 HQ.o.2.2)) (fun b _=>by simp) (by unfold maxLen;simp;omega) (by simp;omega) ?_;intro v3 w3 H T h3 h4;have K1:=Kz H;have K4:=Kz h4;have K2:=Kz ((show Gr W3 _ from gd).eF _ |>.trans T);have K3:=Kz (show∀b∈v3.ownBlock.toList,b∈(Value.slice rb D.length rd).ownBlock.toList∨W3.heap.size≤b from fun b q=>h3.elim (fun e=>.inl (by rw[e] at q;exact q)) (fun e=>.inr (by rw[e] at q;simp at q;omega)));clear H T h3 h4))
      refine⟨⟨j+1,by omega,⟨E++[[]],by rw[List.flatten_append,ay.o];rfl,K4.o,by rw[HX.o];exact K1.o,K2.o.aO aL.o (fun hm=>(s.o _ hm).1 rfl),J.o.wr K2.o (fun b q hm=>(s.o b hm).2 q),fun b q=>?_⟩,by go_num⟩,by simp[intOf];omega⟩;rcases K3.o b q with h|h
      ·exact s.o b h
      ·have h9:=J.o.lt
       exact⟨by omega,fun hm=>by have:=h9 b hm;omega⟩
     ·have kQ:(q2==2)=false:=by simpa using hk
      have HX:=Kz (show wL (s1.take (j+1))=D by rw[Nv aj (by rw[←K.o];exact hm) (by rw[←K.o];exact hk),U.o]);clear hm hk;go_wp2_with fail;refine⟨⟨j+1,by omega,⟨E,ay.o,I.o.trans gd,by rw[HX.o];exact aN.o.gr gd,(show Gr W3 _ from gd).keep aL.o,J.o.gr gd,s.o⟩,by go_num⟩,by simp[intOf];omega⟩
   ·have kS:j=s1.length:=by omega
    subst kS;obtain⟨fq,H,T⟩:=aN.o.fresh (by unfold bn;omega) (by rw[ay.o];exact aY.nil _);have H1:=Kz (show SlR fq W3 (.slice rb D.length rd) (LU (Z,g1) n) by rw[fK.o,←List.take_length (l:=s1),←U.o];exact H);have H2:=Kz (T.of_le dC.o.size);clear H T;go_wp2_with fail;go_ret;exact⟨_,fq,rfl,H1.o,H2.o,dC.o.trans I.o⟩
theorem NP{fo fl:List Nat}{co:Array Value}(o:ag)(L:List ag)(s:Option Addr)(B D:Nat)(w:World)(h:Rd.rd fo w co.toList o)(E:SlR fl w (.slice s L.length B) L)(H:w.cell? ⟨D,0,none⟩=some (.slice s L.length B)):
  Qz 212 #[.agg co,.pointer (some ⟨D,0,none⟩)] w (.bool (pB (o∈L))):=by
 have I:=Kz E;obtain⟨R,q⟩:=nm (pB (o∈L));rw[←q];have J:=Kz q;have Y:=blk H;clear q E;have K:=Kz h;obtain⟨O,T,rfl,rfl,-,U,X⟩:=KT h;clear h;delta Qz;go_in;go_wp2_with fail;refine(vQ L (O,T) _ (I.o.gr gd) (Rd.gr K.o gd)).mono ?_;rintro e w' ⟨rfl,Z,rfl⟩;rw[←J.o];go_wp2_with fail;go_ret;exact⟨rfl,gd⟩
theorem Mw(fp fl:List Nat)(cs:Array Value)(u:Value)(x:aA d)(L:List ag)(w:World)(s:Rd.rd fp w cs.toList x)(D:SlR fl w u L)(hc:cZ (d+1) x≤1048576):
  Qz 148 #[.agg cs,u] w (.bool (pB (UsP L (d+1) x))):=by
 have HX:=Kz s;have T:=Kz D;have HC:=Kz hc;obtain⟨E,H,rfl,-,-,-⟩:=D.open;obtain⟨R,I⟩:=nm (pB (UsP L (d+1) x));rw[←I];have J:=Kz I;obtain⟨x0,x1,U,x3,x4,x5,ax,lx,kx,rfl⟩:=eO s;clear s D hc I;delta Qz;go_in;go_wp2_with fail;obtain⟨B,q⟩:=nm ((w.alloc (.cells #[.int .i64 x0,.int .i64 x1,.int .i64 U,.int .i64 x3,.string x4,.string x5,.slice ax lx kx] 115)).alloc (.cells #[.slice E L.length H] 129));rw[←q];have X:Gr w B:=by rw[q];exact gd
 have Y:B.cell? ⟨w.heap.size+1,0,none⟩=some (.slice E L.length H):=by rw[q];exact aJ (by simp) rfl
 have h:=Kz X;have Z:=Kz Y;have zb:=blk Y;clear q X;refine(Ba _ _ x _ (Rd.gr HX.o h.o) HC.o).mono ?_;rintro e w' ⟨v,fq,K,rfl,O,hm,z1,rfl⟩;have HS:=Kz O
 have HM:=Kz (show R=K.any (fun o=>pB (o∈L)) from J.o.trans (by
  rw[Bool.eq_iff_iff,dx,List.any_eq_true];exact⟨fun⟨o,ho,hl⟩=>⟨o,(hm o).2 ho,bQ hl⟩,fun⟨o,ho,hl⟩=>⟨o,(hm o).1 ho,dx.1 hl⟩⟩))
 obtain⟨aq,kq,rfl,-,-,-⟩:=O.open;clear O hm
 have HT:=Kz (fun(W:World) (hW:Gr B W)=>show TestOccurrence W 212 #[.pointer (some ⟨w.heap.size+1,0,none⟩)] (fun o=>pB (o∈L)) K from
  ⟨Tryz.call212,fun z _ x fp cs hz=>NP z L E H _ _ hz (T.o.gr (h.o.trans (hW.trans gd))) ((hW.trans gd).keep Z.o)⟩)
 go_wp2_with (first|(go_at_call 211;refine(jo _ _ K _ _ (fun o=>pB (o∈L)) _ (HS.o.gr gd) (HT.o _ gd)).mono ?_;rintro e w' ⟨rfl,U,rfl⟩;rw[←HM.o]))
 go_ret;exact⟨rfl,h.o.trans gd⟩
theorem uf:(d:Nat)→OH 148 d
 |0=>by intro fp fl cs u x;exact PEmpty.elim x
 |d+1=>fun fp fl cs u x L w h q hc=>Mw fp fl cs u x L w h q hc
theorem NT(fp:List Nat)(cs:Array Value)(x:aA d)(w:World)(s:Rd.rd fp w cs.toList x):
  Qz 205 #[.agg cs] w (.bool (pB (x.1≠8))):=by
 obtain⟨q0,q1,q2,q3,q4,q5,q6,H,I,J,rfl,rfl,-,K,O,T,U,X,Y,Z,-,-⟩:=KU s
 by_cases q:q0=8
 ·have E:(q0==8)=true:=by simp[q]
  have B:=Kz (show pB (q0≠8)=false from bz fun h=>h q)
  show Calls _ _ _ _ fun e w'=>e=.returned (.bool (pB (q0≠8)))∧Gr w w'
  rw[B.o];have D:=Kz q;clear q s;(try delta Qz);go_in;go_wp2_with fail;go_ret;exact⟨aa (by first|rfl|simp[D.o]),gd⟩
 ·have E:(q0==8)=false:=by simpa using q
  have B:=Kz (show pB (q0≠8)=true from bQ q)
  show Calls _ _ _ _ fun e w'=>e=.returned (.bool (pB (q0≠8)))∧Gr w w'
  rw[B.o];have D:=Kz q;clear q s;(try delta Qz);go_in;go_wp2_with fail;go_ret;exact⟨aa (by first|rfl|simp[D.o]),gd⟩
theorem Me(fp:List Nat)(cs:Array Value)(x:aA d)(w:World)(h:Rd.rd fp w cs.toList x)(s:ak x≤1048576):
  Qz 139 #[.agg cs] w (.bool (!pB (bX (d+1) x))):=by
 have B:=Kz h;have D:=Kz s;obtain⟨R,q⟩:=nm (pB (bX (d+1) x));rw[←q];have E:=Kz q;obtain⟨J,K,O,T,U,X,Y,Z,kx,rfl⟩:=eO h;have H:=Kz (fun W:World=>show zD W 205 #[] (fun{d} (y:aA d)=>y.1≠8) from⟨Tryz.call205,fun y _ _ fp cs I _=>NT fp cs y _ I⟩);clear h s q;delta Qz;go_in;go_wp2_with fail;refine(sV (fun{d} (y:aA d)=>y.1≠8) (d+1) _ _ x _ _ _ (H.o _) (Rd.gr B.o gd) D.o).mono ?_;rintro e w' ⟨he,z1,rfl⟩;obtain rfl:e=.returned (.bool R):=he.trans (by rw[E.o];rfl);go_wp2_with fail;go_ret;exact⟨rfl,gd⟩
end Go.Proofs.YtdhighcpmcdmmaaGreat
