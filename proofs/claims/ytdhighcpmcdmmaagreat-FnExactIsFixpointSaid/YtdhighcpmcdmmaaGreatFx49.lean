/- Contracts and laws towards ReadsOf, part 50 of 54. No condition. -/
import Derived.Test.YtdhighcpmcdmmaaGreatFx48
set_option maxHeartbeats 32000000
set_option maxRecDepth 10000
set_option linter.unusedVariables false
set_option linter.unusedSimpArgs false
namespace Go.Proofs.YtdhighcpmcdmmaaGreat
open Go.RowKit
open _root_.Nat (add_zero zero_mul)
variable{d:Nat}
def Ow(n:Nat):Prop:=∀(fx I J:List Nat) (cx:Array Value) (s:Nat) (B:Option Addr) (D:Nat) (E:Option Addr) (H:Nat) (x:GE n) (S:List gV) (lit:Int) (q:List Int) (w:World) (K:Rd.rd fx w cx.toList x) (O:SlR I w (.slice B S.length D) S) (T:w.cell? ⟨s,0,none⟩=some (.slice B S.length D)) (U:SlR J w (.slice E q.length H) q) (X:jh (fun{d} y=>LdP y) n x),
 Calls Tryz.prog 176 #[.agg #[.func (.func 173) #[] #[.pointer (some ⟨s,0,none⟩)],.func (.func 175) #[] #[],.int .i64 lit,.slice E q.length H],.agg cx] w fun e w'=>e=.returned (.int .i64 (mE S lit q n x))∧Gr w w'
theorem MQ(v:Int)(n:Nat)(x:aA n)(fx:List Nat)(cx:Array Value)(w:World)(q:Rd.rd fx w cx.toList x):Qz 175 #[.int .i64 v,.agg cx] w (.int .i64 0):=by
 obtain⟨s,B,D,E,H,I,J,K,O,rfl⟩:=eO q;clear q;delta Qz;go_in;go_wp2_with fail;go_ret;exact⟨rfl,gd⟩
theorem Oe(S:List gV)(o:ag)(I fo:List Nat)(co:Array Value)(B:Nat)(D:Option Addr)(E:Nat)(w:World)(H:SlR I w (.slice D S.length E) S)(J:w.cell? ⟨B,0,none⟩=some (.slice D S.length E))(q:Rd.rd fo w co.toList o):
  Qz 173 #[.agg co,.pointer (some ⟨B,0,none⟩)] w (.int .i64 (Lx S o)):=by
 have K:=Kz H;obtain⟨R,s⟩:=nm (Lx S o);rw[←s];have O:=Kz s;have zb:=blk J;clear H s;have T:=Kz q;obtain⟨U,X,rfl,rfl,-,Y,Z⟩:=KT q;clear q;delta Qz;go_in
 go_wp2_with (first|(go_at_call 174;refine(MF S (U,X) _ (K.o.gr gd) (Rd.gr T.o gd)).mono ?_;rintro e w' ⟨rfl,x1,rfl⟩;rw[←O.o]))
 go_ret;exact⟨rfl,gd⟩
theorem Nn{n:Nat}(hE:Ow n):Ow (n+1):=by
 intro fx fs fi cx bs aS ks ai ki x S lit s w hx hs hb hi hn
 have HE:=Kz hE;obtain⟨q0,q1,q2,q3,q4,q5,q6⟩:=(x:aA n);obtain⟨gT,ik,rfl,-,fu,fw,dL,fA,fK,dU,dA⟩:=aF q0 q1 q2 q3 q4 q5 q6 (show Rd.rd (α:=aA n) fx w cx.toList _ from hx);obtain⟨gm,bq,rfl,-,-,-⟩:=dA.open;have HX:=Kz (show Rd.rd (α:=aA n) fx w #[.int .i64 q0,.int .i64 q1,.int .i64 q2,.int .i64 q3,.string q4,.string q5,.slice gm q6.length bq].toList (q0,q1,q2,q3,q4,q5,q6) from hx);have bH:=Kz dA;have dW:=Kz (And.intro dL dU);have HS:=Kz hs;have HI:=Kz hi;have HB:=Kz hb;have K:=Kz (And.intro hn.1 hn.2);have gM:1≤q0∧q0≤8:=hn.1.1;obtain⟨iw,jN,he,-,-,eH⟩:=hi.open;injection he with e1 e2 e3;subst e1 e3;clear hE hx dA fu fw dL fA fK dU hn hs hi hb;rcases(show q0=1∨q0=2∨q0=3∨q0=4∨q0=5∨q0=6∨q0=7∨q0=8 by omega) with h|h|h|h|h|h|h|h
 ·subst h
  simp only[Oc];go_in;go_wp2_with fail;go_ret;exact⟨rfl,gd⟩
 ·subst h
  simp only[N8];go_in;go_wp2_with fail;go_ret;exact⟨rfl,gd⟩
 ·subst h
  simp only[NK];go_in;go_wp2_with fail;refine(Oe S (q2,q5) fs _ #[.int .i64 q2,.string q5] bs aS ks _ (HS.o.gr gd) ((show Gr w _ from gd).keep HB.o) (bO q2 q5 dW.o.1 dW.o.2)).mono ?_;rintro e w' ⟨rfl,x1,rfl⟩;go_wp2_with fail;go_ret;exact⟨rfl,gd⟩
 ·subst h
  obtain⟨O,xb,rfl⟩:=K.o.1.two rfl;simp only[Ob];obtain⟨va,aV⟩:=nm (mE S lit s n O);obtain⟨vb,bB⟩:=nm (mE S lit s n xb);rw[←aV,←bB];obtain⟨H,co,c0,c1,c2,c3,c4,c5,c6,cf,cq,-,cr,-,I,U,X,Y,Z,ae,ah⟩:=cB (xs:=[O,xb]) bH.o (k:=0) (by simp);subst cq;rw[zero_mul,add_zero] at I U X Y Z ae ah;have cr:=Kz (show Rd.rd cf w [c0,c1,c2,c3,c4,c5,c6] O from cr);have zc:=blk I;obtain⟨eb,eo,e0,e1,e2,e3,e4,e5,e6,ef,eq,-,er,-,J,aj,au,ax,ay,aL,aN⟩:=cB (xs:=[O,xb]) bH.o (k:=1) (by simp)
  obtain⟨rfl,rfl⟩:H=eb∧co=eo:=by
   injection eq with h;injection h with h1 h2;exact⟨h1,h2⟩
  clear eq;replace J:w.cell? ⟨H,co+7,none⟩=some e0:=J;replace aj:w.cell? ⟨H,co+7+1,none⟩=some e1:=aj;replace au:w.cell? ⟨H,co+7+2,none⟩=some e2:=au;replace ax:w.cell? ⟨H,co+7+3,none⟩=some e3:=ax;replace ay:w.cell? ⟨H,co+7+4,none⟩=some e4:=ay;replace aL:w.cell? ⟨H,co+7+5,none⟩=some e5:=aL;replace aN:w.cell? ⟨H,co+7+6,none⟩=some e6:=aN;have er:=Kz (show Rd.rd ef w [e0,e1,e2,e3,e4,e5,e6] xb from er);have ze:=blk J;have HA:=Kz (fun(W:World) (g:Gr w W)=>(show Calls Tryz.prog 176 #[.agg #[.func (.func 173) #[] #[.pointer (some ⟨bs,0,none⟩)],.func (.func 175) #[] #[],.int .i64 lit,.slice ai s.length ki],.agg #[c0,c1,c2,c3,c4,c5,c6]] W fun e w'=>e=.returned (.int .i64 va)∧Gr W w' from by rw[aV];exact HE.o cf fs fi #[c0,c1,c2,c3,c4,c5,c6] bs aS ks ai ki O S lit s W (Rd.gr cr.o g) (HS.o.gr g) (g.keep HB.o) (HI.o.gr g) (K.o.2 O (by simp))));have HC:=Kz (fun(W:World) (g:Gr w W)=>(show Calls Tryz.prog 176 #[.agg #[.func (.func 173) #[] #[.pointer (some ⟨bs,0,none⟩)],.func (.func 175) #[] #[],.int .i64 lit,.slice ai s.length ki],.agg #[e0,e1,e2,e3,e4,e5,e6]] W fun e w'=>e=.returned (.int .i64 vb)∧Gr W w' from by rw[bB];exact HE.o ef fs fi #[e0,e1,e2,e3,e4,e5,e6] bs aS ks ai ki xb S lit s W (Rd.gr er.o g) (HS.o.gr g) (g.keep HB.o) (HI.o.gr g) (K.o.2 xb (by simp))));clear aV bB;go_in
  go_upto_region 9 with fail
  obtain⟨B,hB⟩:=nm ((w.alloc (.cells #[.func (.func 173) #[] #[.pointer (some ⟨bs,0,none⟩)],.func (.func 175) #[] #[],.int .i64 lit,.slice ai s.length ki] 207)).alloc (.cells #[.int .i64 4,.int .i64 q1,.int .i64 q2,.int .i64 q3,.string q4,.string q5,.slice (some ⟨H,co,none⟩) 2 bq] 115));rw[←hB];have q:Gr w B:=by rw[hB];exact gd
  have VR:=Kz (show az B w.heap.size 207 [.func (.func 173) #[] #[.pointer (some ⟨bs,0,none⟩)],.func (.func 175) #[] #[],.int .i64 lit,.slice ai s.length ki] by rw[hB];exact(az.new rfl).gr gd);have VX:=Kz (show az B (w.heap.size+1) 115 [.int .i64 4,.int .i64 q1,.int .i64 q2,.int .i64 q3,.string q4,.string q5,.slice (some ⟨H,co,none⟩) 2 bq] by rw[hB];exact az.new (by simp));have aZ:=Kz q;clear hB;obtain⟨b0,b1,b2,b3⟩:=VR.o.c4;obtain⟨x0,x1,x2,x3,x4,x5,x6⟩:=VX.o.c7;have zb:=blk b0;have zx:=blk x0;replace I:=q.keep I;replace U:=q.keep U;replace X:=q.keep X;replace Y:=q.keep Y;replace Z:=q.keep Z;replace ae:=q.keep ae;replace ah:=q.keep ah;have dz:=blk I;replace J:=q.keep J;replace aj:=q.keep aj;replace au:=q.keep au;replace ax:=q.keep ax;replace ay:=q.keep ay;replace aL:=q.keep aL;replace aN:=q.keep aN;have dC:=blk J;clear q;refine wg ?_
  repeat(go_big_quiet_step (first|(go_at_call 176;with_reducible exact aG (HA.o _ (tg aZ)))))
  refine wq fun nx=>?_
  go_wp2_with fail;obtain⟨D,hD⟩:=nm (B.ext nx);rw[←hD];have E:Gr B D:=by rw[hD];exact gd
  have bD:=Kz (aZ.o.trans E);replace b0:=E.keep b0;replace b1:=E.keep b1;replace b2:=E.keep b2;replace b3:=E.keep b3;replace x1:=E.keep x1;replace x6:=E.keep x6;replace J:=E.keep J;replace aj:=E.keep aj;replace au:=E.keep au;replace ax:=E.keep ax;replace ay:=E.keep ay;replace aL:=E.keep aL;replace aN:=E.keep aN;have zd:=blk b0;have ze:=blk x1;have zf:=blk J;clear hD x0 x2 x3 x4 x5 I U X Y Z ae ah zb zx dz dC zc
  go_upto_region 10 with fail
  refine wg ?_
  repeat(go_big_quiet_step (first|(go_at_call 176;with_reducible exact aG (HC.o _ (tg bD)))|(go_at_call 226;exact aG (CO _ _ _ _))))
  refine wq fun nx=>?_
  go_wp2_with fail;go_ret;exact⟨rfl,bD.o.trans gd⟩
 ·subst h
  obtain⟨O,xb,xc,rfl⟩:=K.o.1.three rfl;simp only[N9];obtain⟨va,aV⟩:=nm (mE S lit s n O);obtain⟨vb,bB⟩:=nm (mE S lit s n xb);obtain⟨vc,dG⟩:=nm (mE S lit s n xc);rw[←aV,←bB,←dG];obtain⟨H,co,c0,c1,c2,c3,c4,c5,c6,cf,cq,-,cr,-,I,U,X,Y,Z,ae,ah⟩:=cB (xs:=[O,xb,xc]) bH.o (k:=0) (by simp);subst cq;rw[zero_mul,add_zero] at I U X Y Z ae ah;have cr:=Kz (show Rd.rd cf w [c0,c1,c2,c3,c4,c5,c6] O from cr);have zc:=blk I;obtain⟨eb,eo,e0,e1,e2,e3,e4,e5,e6,ef,eq,-,er,-,J,aj,au,ax,ay,aL,aN⟩:=cB (xs:=[O,xb,xc]) bH.o (k:=1) (by simp)
  obtain⟨rfl,rfl⟩:H=eb∧co=eo:=by
   injection eq with h;injection h with h1 h2;exact⟨h1,h2⟩
  clear eq;replace J:w.cell? ⟨H,co+7,none⟩=some e0:=J;replace aj:w.cell? ⟨H,co+7+1,none⟩=some e1:=aj;replace au:w.cell? ⟨H,co+7+2,none⟩=some e2:=au;replace ax:w.cell? ⟨H,co+7+3,none⟩=some e3:=ax;replace ay:w.cell? ⟨H,co+7+4,none⟩=some e4:=ay;replace aL:w.cell? ⟨H,co+7+5,none⟩=some e5:=aL;replace aN:w.cell? ⟨H,co+7+6,none⟩=some e6:=aN;have er:=Kz (show Rd.rd ef w [e0,e1,e2,e3,e4,e5,e6] xb from er);have ze:=blk J;obtain⟨mb,mo,m0,m1,m2,m3,m4,m5,m6,mf,mq,-,mr,-,bg,bK,bL,bN,bV,cK,cO⟩:=cB (xs:=[O,xb,xc]) bH.o (k:=2) (by simp)
  obtain⟨rfl,rfl⟩:H=mb∧co=mo:=by
   injection mq with h;injection h with h1 h2;exact⟨h1,h2⟩
  clear mq;replace bg:w.cell? ⟨H,co+14,none⟩=some m0:=bg;replace bK:w.cell? ⟨H,co+14+1,none⟩=some m1:=bK;replace bL:w.cell? ⟨H,co+14+2,none⟩=some m2:=bL;replace bN:w.cell? ⟨H,co+14+3,none⟩=some m3:=bN;replace bV:w.cell? ⟨H,co+14+4,none⟩=some m4:=bV;replace cK:w.cell? ⟨H,co+14+5,none⟩=some m5:=cK;replace cO:w.cell? ⟨H,co+14+6,none⟩=some m6:=cO;have mr:=Kz (show Rd.rd mf w [m0,m1,m2,m3,m4,m5,m6] xc from mr);have zm:=blk bg;have HA:=Kz (fun(W:World) (g:Gr w W)=>(show Calls Tryz.prog 176 #[.agg #[.func (.func 173) #[] #[.pointer (some ⟨bs,0,none⟩)],.func (.func 175) #[] #[],.int .i64 lit,.slice ai s.length ki],.agg #[c0,c1,c2,c3,c4,c5,c6]] W fun e w'=>e=.returned (.int .i64 va)∧Gr W w' from by rw[aV];exact HE.o cf fs fi #[c0,c1,c2,c3,c4,c5,c6] bs aS ks ai ki O S lit s W (Rd.gr cr.o g) (HS.o.gr g) (g.keep HB.o) (HI.o.gr g) (K.o.2 O (by simp))));have HC:=Kz (fun(W:World) (g:Gr w W)=>(show Calls Tryz.prog 176 #[.agg #[.func (.func 173) #[] #[.pointer (some ⟨bs,0,none⟩)],.func (.func 175) #[] #[],.int .i64 lit,.slice ai s.length ki],.agg #[e0,e1,e2,e3,e4,e5,e6]] W fun e w'=>e=.returned (.int .i64 vb)∧Gr W w' from by rw[bB];exact HE.o ef fs fi #[e0,e1,e2,e3,e4,e5,e6] bs aS ks ai ki xb S lit s W (Rd.gr er.o g) (HS.o.gr g) (g.keep HB.o) (HI.o.gr g) (K.o.2 xb (by simp))));have HD:=Kz (fun(W:World) (g:Gr w W)=>(show Calls Tryz.prog 176 #[.agg #[.func (.func 173) #[] #[.pointer (some ⟨bs,0,none⟩)],.func (.func 175) #[] #[],.int .i64 lit,.slice ai s.length ki],.agg #[m0,m1,m2,m3,m4,m5,m6]] W fun e w'=>e=.returned (.int .i64 vc)∧Gr W w' from by rw[dG];exact HE.o mf fs fi #[m0,m1,m2,m3,m4,m5,m6] bs aS ks ai ki xc S lit s W (Rd.gr mr.o g) (HS.o.gr g) (g.keep HB.o) (HI.o.gr g) (K.o.2 xc (by simp))));clear aV bB dG;obtain⟨T,hT⟩:∃T:Bool,T=(va !=0):=⟨_,rfl⟩;have gF:=Kz hT;have HV:=Kz (show(if va=0 then vc else vb)=(if T then vb else vc) by rw[hT];by_cases h0:va=0<;>simp[h0]);rw[HV.o];go_in
  go_upto_region 12 with fail
  obtain⟨B,hB⟩:=nm ((w.alloc (.cells #[.func (.func 173) #[] #[.pointer (some ⟨bs,0,none⟩)],.func (.func 175) #[] #[],.int .i64 lit,.slice ai s.length ki] 207)).alloc (.cells #[.int .i64 5,.int .i64 q1,.int .i64 q2,.int .i64 q3,.string q4,.string q5,.slice (some ⟨H,co,none⟩) 3 bq] 115));rw[←hB];have q:Gr w B:=by rw[hB];exact gd
  have VR:=Kz (show az B w.heap.size 207 [.func (.func 173) #[] #[.pointer (some ⟨bs,0,none⟩)],.func (.func 175) #[] #[],.int .i64 lit,.slice ai s.length ki] by rw[hB];exact(az.new rfl).gr gd);have VX:=Kz (show az B (w.heap.size+1) 115 [.int .i64 5,.int .i64 q1,.int .i64 q2,.int .i64 q3,.string q4,.string q5,.slice (some ⟨H,co,none⟩) 3 bq] by rw[hB];exact az.new (by simp));have aZ:=Kz q;clear hB;obtain⟨b0,b1,b2,b3⟩:=VR.o.c4;obtain⟨x0,x1,x2,x3,x4,x5,x6⟩:=VX.o.c7;have zb:=blk b0;have zx:=blk x0;replace I:=q.keep I;replace U:=q.keep U;replace X:=q.keep X;replace Y:=q.keep Y;replace Z:=q.keep Z;replace ae:=q.keep ae;replace ah:=q.keep ah;have dz:=blk I;replace J:=q.keep J;replace aj:=q.keep aj;replace au:=q.keep au;replace ax:=q.keep ax;replace ay:=q.keep ay;replace aL:=q.keep aL;replace aN:=q.keep aN;have dC:=blk J;replace bg:=q.keep bg;replace bK:=q.keep bK;replace bL:=q.keep bL;replace bN:=q.keep bN;replace bV:=q.keep bV;replace cK:=q.keep cK;replace cO:=q.keep cO;have gH:=blk bg;clear q;clear hT;refine wg ?_
  repeat(go_big_quiet_step (first|(go_at_call 176;with_reducible exact aG (HA.o _ (tg aZ)))))
  refine wq fun nx=>?_
  rw[←gF.o];obtain⟨D,hD⟩:=nm (B.ext nx);rw[←hD];have E:Gr B D:=by rw[hD];exact gd
  have bD:=Kz (aZ.o.trans E);replace b0:=E.keep b0;replace b1:=E.keep b1;replace b2:=E.keep b2;replace b3:=E.keep b3;replace x6:=E.keep x6;replace J:=E.keep J;replace aj:=E.keep aj;replace au:=E.keep au;replace ax:=E.keep ax;replace ay:=E.keep ay;replace aL:=E.keep aL;replace aN:=E.keep aN;replace bg:=E.keep bg;replace bK:=E.keep bK;replace bL:=E.keep bL;replace bN:=E.keep bN;replace bV:=E.keep bV;replace cK:=E.keep cK;replace cO:=E.keep cO;have zd:=blk b0;have ze:=blk x6;have zf:=blk J;clear hD x0 x1 x2 x3 x4 x5 I U X Y Z ae ah zb zx dz dC gH zc zm
  cases T with
  |true=>
   go_upto_region 13 with fail
   refine wg ?_
   repeat(go_big_quiet_step (first|(go_at_call 176;with_reducible exact aG (HC.o _ (tg bD)))))
   refine wq fun nx=>?_
   go_wp2_with fail;go_ret;exact⟨rfl,bD.o.trans gd⟩
  |false=>
   go_upto_region 14 with fail
   refine wg ?_
   repeat(go_big_quiet_step (first|(go_at_call 176;with_reducible exact aG (HD.o _ (tg bD)))))
   refine wq fun nx=>?_
   go_wp2_with fail;go_ret;exact⟨rfl,bD.o.trans gd⟩
 ·subst h
  have h2:0≤q2:=K.o.1.2.2 rfl;obtain⟨j,rfl⟩:∃j:Nat,q2=j:=⟨q2.toNat,by omega⟩;simp only[Oj,Int.toNat_natCast]
  by_cases hj:j<s.length
  ·obtain⟨b9,o9,rfl,jX⟩:=eH j hj
   have c9:=(HI.o.fQ hj).1;have e9:s.getD j 0=s[j]:=by rw[List.getD_eq_getElem?_getD,List.getElem?_eq_getElem hj];rfl
   rw[e9];obtain⟨IV,fe⟩:=nm (s[j]);rw[←fe] at c9 ⊢;have j0:(0:Int)≤(j:Int):=by omega
   have j1:(j:Int)<(s.length:Int):=by omega
   have z9:=blk c9;clear e9 fe eH;go_in;go_wp2_with fail;go_ret;exact⟨rfl,gd⟩
  ·have e9:s.getD j 0=0:=by rw[List.getD_eq_getElem?_getD,List.getElem?_eq_none (by omega)];rfl
   rw[e9];have j1:¬(j:Int)<(s.length:Int):=by omega
   clear e9;go_in;go_wp2_with fail;go_ret;exact⟨rfl,gd⟩
 ·subst h
  simp only[Om];go_in;go_wp2_with fail;go_ret;exact⟨rfl,gd⟩
 ·subst h
  obtain⟨O,rfl⟩:=K.o.1.one rfl;simp only[Oo];obtain⟨va,aV⟩:=nm (mE S lit s n O);obtain⟨H,co,c0,c1,c2,c3,c4,c5,c6,cf,cq,-,cr,-,I,U,X,Y,Z,ae,ah⟩:=cB (xs:=[O]) bH.o (k:=0) (by simp);subst cq;rw[zero_mul,add_zero] at I U X Y Z ae ah;have cr:=Kz (show Rd.rd cf w [c0,c1,c2,c3,c4,c5,c6] O from cr);have zc:=blk I;have HA:=Kz (fun(W:World) (g:Gr w W)=>(show Calls Tryz.prog 176 #[.agg #[.func (.func 173) #[] #[.pointer (some ⟨bs,0,none⟩)],.func (.func 175) #[] #[],.int .i64 lit,.slice ai s.length ki],.agg #[c0,c1,c2,c3,c4,c5,c6]] W fun e w'=>e=.returned (.int .i64 va)∧Gr W w' from by rw[aV];exact HE.o cf fs fi #[c0,c1,c2,c3,c4,c5,c6] bs aS ks ai ki O S lit s W (Rd.gr cr.o g) (HS.o.gr g) (g.keep HB.o) (HI.o.gr g) (K.o.2 O (by simp))));clear aV;go_in
  go_upto_region 19 with fail
  obtain⟨B,hB⟩:=nm ((w.alloc (.cells #[.func (.func 173) #[] #[.pointer (some ⟨bs,0,none⟩)],.func (.func 175) #[] #[],.int .i64 lit,.slice ai s.length ki] 207)).alloc (.cells #[.int .i64 8,.int .i64 q1,.int .i64 q2,.int .i64 q3,.string q4,.string q5,.slice (some ⟨H,co,none⟩) 1 bq] 115));rw[←hB];have q:Gr w B:=by rw[hB];exact gd
  have VR:=Kz (show az B w.heap.size 207 [.func (.func 173) #[] #[.pointer (some ⟨bs,0,none⟩)],.func (.func 175) #[] #[],.int .i64 lit,.slice ai s.length ki] by rw[hB];exact(az.new rfl).gr gd);have VX:=Kz (show az B (w.heap.size+1) 115 [.int .i64 8,.int .i64 q1,.int .i64 q2,.int .i64 q3,.string q4,.string q5,.slice (some ⟨H,co,none⟩) 1 bq] by rw[hB];exact az.new (by simp));have aZ:=Kz q;clear hB;obtain⟨b0,b1,b2,b3⟩:=VR.o.c4;obtain⟨x0,x1,x2,x3,x4,x5,x6⟩:=VX.o.c7;have zb:=blk b0;have zx:=blk x0;replace I:=q.keep I;replace U:=q.keep U;replace X:=q.keep X;replace Y:=q.keep Y;replace Z:=q.keep Z;replace ae:=q.keep ae;replace ah:=q.keep ah;have dz:=blk I;clear q;refine wg ?_
  repeat(go_big_quiet_step (first|(go_at_call 176;with_reducible exact aG (HA.o _ (tg aZ)))|(exact aG (MQ va n (8,q1,q2,q3,q4,q5,[O]) _ _ _ (Rd.gr HX.o (tg aZ))))))
  refine wq fun nx=>?_
  go_wp2_with fail;go_ret;exact⟨rfl,aZ.o.trans gd⟩
theorem LQ:(n:Nat)→Ow n
 |0=>by intro fx q s cx B D E H I x;exact PEmpty.elim x
 |n+1=>Nn (LQ n)
theorem M8(fx U X:List Nat)(cx:Array Value)(us Y:Value)(x:aA d)(S:List gV)(lit:Int)(s:List Int)(w:World)(E:Rd.rd fx w cx.toList x)(H:SlR U w us S)(I:SlR X w Y s)(Z:ak x≤1048576):
  Qz 104 #[.agg cx,us,.int .i64 lit,Y] w (.int .i64 (if pB (Da x)=true then mE S lit s (d+1) x else 0)):=by
 have HX:=Kz E;have HS:=Kz H;have HI:=Kz I;have HL:=Kz Z;obtain⟨V,J⟩:=nm (mE S lit s (d+1) x);obtain⟨C,K⟩:=nm (pB (Da x));rw[←J,←K];have HC:=Kz K;have HV:=Kz J;obtain⟨x0,x1,x2,x3,x4,x5,ax,lx,kx,rfl⟩:=eO E;obtain⟨O,T,rfl,-,-,-⟩:=H.open;obtain⟨ai,ki,rfl,-,-,-⟩:=I.open;clear E H I Z J K;delta Qz;go_in;go_wp2_with fail;obtain⟨B,D⟩:=nm ((w.alloc (.cells #[.int .i64 x0,.int .i64 x1,.int .i64 x2,.int .i64 x3,.string x4,.string x5,.slice ax lx kx] 115)).alloc (.cells #[.slice O S.length T] 121));rw[←D];have gB:Gr w B:=by rw[D];exact gd
 have VX:=Kz (show az B w.heap.size 115 [.int .i64 x0,.int .i64 x1,.int .i64 x2,.int .i64 x3,.string x4,.string x5,.slice ax lx kx] by rw[D];exact(az.new rfl).gr gd);have s0:B.cell? ⟨w.heap.size+1,0,none⟩=some (.slice O S.length T):=by rw[D];exact aJ (by simp) rfl
 have ae:=Kz s0;have q:=Kz gB;clear D gB s0;obtain⟨y0,y1,y2,y3,y4,y5,y6⟩:=VX.o.c7;have zy:=blk y0;refine(rU _ _ x _ (Rd.gr HX.o q.o) HL.o).mono ?_;rintro e w' ⟨rfl,z1,rfl⟩;rw[←HC.o]
 cases C with
 |true=>
  go_wp2_with (first|(go_at_call 176;refine(LQ (d+1) _ U X _ (w.heap.size+1) O T ai ki x S lit s _ (Rd.gr HX.o (tg q)) (HS.o.gr (tg q)) ((show Gr B _ from gd).keep ae.o) (HI.o.gr (tg q)) (Ny (dx.1 HC.o.symm))).mono ?_;rintro e w' ⟨rfl,z2,rfl⟩;rw[←HV.o]))
  go_ret;exact⟨rfl,q.o.trans gd⟩
 |false=>
  go_wp2_with fail;go_ret;exact⟨rfl,q.o.trans gd⟩
theorem NB(fx B D:List Nat)(cx:Array Value)(us s:Value)(x:aA d)(S:List gV)(lit:Int)(q:List Int)(v:Int)(w:World)(E:Rd.rd fx w cx.toList x)(H:SlR B w us S)(I:SlR D w s q)(J:ak x≤1048576)(K:(if pB (Da x)=true then mE S lit q (d+1) x else 0)=v):
  Qz 104 #[.agg cx,us,.int .i64 lit,s] w (.int .i64 v):=by
 rw[←K];exact M8 fx B D cx us s x S lit q w E H I J
theorem MK{fg ft fx fV:List Nat}{cg ct cx:Array Value}{uV:Value}(g:af d)(t:List aT)(x:av)(L:List av)(V:List Int)(w:World)(hg:Rd.rd fg w cg.toList g)(ht:Rd.rd (α:=fU) ft w ct.toList t)(hx:Rd.rd fx w cx.toList x)(hV:SlR fV w uV V)(hl:aP g≤1048576)(dA:gY t≤1048576)(dC:fP g t=true)(dG:L=bU g t)(dL:L.length=V.length):
  Qz 47 #[.agg cg,.agg ct,.agg cx,uV] w (.int .i64 (F8 g t L V x)):=by
 have bg:=Kz hl;have dU:=Kz dA;have kE:=Kz dC;have dW:=Kz dG;have kL:=Kz dL;have kQ:=Kz hV;obtain⟨aV,kV,rfl,-,-,-⟩:=hV.open;clear hl dA dC dG dL hV;have HG:=Kz hg;obtain⟨X,Y,eH,fe,qD,fu,fw,qE,rfl,rfl,-,qG,oV,oW,qN,o9,pG⟩:=yt hg;clear hg;have HT:=Kz ht;obtain⟨t0,fA,fK,qR,rfl,rfl,-,gm,pM,pR⟩:=K8 ht;have j5:=gm.op3;clear ht;have HX:=Kz hx;obtain⟨x0,x1,rfl,rfl,-,qV,qX⟩:=K7 hx;clear hx;obtain⟨O,hO⟩:=nm (dS (X,Y) t0 (x0,x1));have ah:=Kz (show F8 (X,Y) t0 L V (x0,x1)=OJ (X,Y) t0 L V O by rw[hO];rfl);have HD:=Kz hO;obtain⟨bq,bB⟩:=nm (F8 (X,Y) t0 L V (x0,x1));rw[←bB] at ah ⊢;clear hO bB;delta Qz;go_in
 go_upto_region 1 with fail
 generalize hB:(((w.alloc (.cells #[.slice eH X.length fe,.slice fu Y.length fw] 36)).alloc (.cells #[.slice fA t0.length fK] 40)).alloc (.cells #[.int .i64 x0,.string x1] 63))=B;have gB:Gr w B:=gb hB;obtain⟨gD,gF⟩:=kb2 hB (w.heap.size) (.slice eH X.length fe) (.slice fu Y.length fw);have gH:=kb hB (w.heap.size+1) 0 (.slice fA t0.length fK);obtain⟨kS,kT⟩:=kb2 hB (w.heap.size+2) (.int .i64 x0) (.string x1);have sB:B.heap.size=w.heap.size+3:=szB hB;clear hB;have y0:=gD _ (Gr.refl _);have y1:=gF _ (Gr.refl _);have y2:=gH _ (Gr.refl _);have y3:=kS _ (Gr.refl _);have y4:=kT _ (Gr.refl _);have gM:=blk y0;have gT:=blk y2;have kX:=blk y3;have aS:=Kz gB
 go_cut [9,10] (fun s8 s9 wr=>OC B O s8 s9 wr)
 case first=>
  go_wp2_with (first|(go_at_call 103;refine(CZ (X,Y) t0 (x0,x1) _ (Rd.gr HG.o (tg aS)) (Rd.gr HT.o (tg aS)) (Rd.gr HX.o (tg aS)) bg.o).mono ?_;rintro e w' ⟨es,fq,rfl,hr,kZ,z9,rfl⟩;obtain⟨p0,D,E,H,I,J,T,U,ku,ky,pV,hyp,rfl,-,ik,aj,au,ax,ay,aL,aN,ai,oK,oL⟩:=Lp (x:=(dS (X,Y) t0 (x0,x1)).getD qW) hr;have lq:=Kz hyp;have bD:=Lt hyp hr;clear hr hyp;obtain⟨bb,ae⟩:∃b:Bool,b=(dS (X,Y) t0 (x0,x1)).isSome:=⟨_,rfl⟩;rw[←ae];have lG:=Kz ae;clear ae))
  all_goals
   go_meet;have bH:∀c∈fq,_≤c:=fun c hc=>(kZ c hc).resolve_left (by simp)
   have ae:bb=O.isSome:=by rw[HD.o];exact lG.o
   refine⟨_,[.int .i64 p0,.int .i64 D,.int .i64 E,.int .i64 H,.int .i64 I,.string J,.string T,.slice ku U.length ky],fq,rfl,by rw[ae],gd,fun j u q=>?_,?_,fun c hc=>by have h:=bH c hc;first|omega|(simp at h;omega)⟩
   ·match j,q with
    |0,q=>obtain rfl:=Option.some.inj q;exact kd
    |1,q=>obtain rfl:=Option.some.inj q;exact kd
    |2,q=>obtain rfl:=Option.some.inj q;exact kd
    |3,q=>obtain rfl:=Option.some.inj q;exact kd
    |4,q=>obtain rfl:=Option.some.inj q;exact kd
    |5,q=>obtain rfl:=Option.some.inj q;exact kd
    |6,q=>obtain rfl:=Option.some.inj q;exact kd
    |7,q=>obtain rfl:=Option.some.inj q;exact kd
   ·rw[HD.o,←lq.o]
    first
     |(refine Rd.gr bD.o ?_;(repeat(first|exact Gr.refl _|apply Gr.ext|apply Gr.alloc|apply Gr.drew));done)
     |((with_reducible refine Rd.mono (dO ?_) bD.o);exact fun c hc e=>by subst e;have:=bH _ hc;simp at this;omega)
     |((with_reducible refine Rd.mono (dM ?_) bD.o);exact fun c hc e=>by subst e;have:=bH _ hc;simp at this;omega)
 case rest=>
  obtain⟨b8,lV,rf,rfl,rfl,g8,s,bK,l5⟩:=hcut
  rename World=>W5
  have Z:=Kz (aS.o.trans g8);have bL:=Kz g8;clear y0 y1 y2 y3 y4 gM gT kX
  cases O with
  |none=>
   have l6:=Kz (show bq=0 from ah.o);clear s bK ah;go_wp2_with fail;go_ret;exact⟨aC l6.o.symm,Z.o⟩
  |some PP=>
   obtain⟨m,hm,bN,bV⟩:=NZ bg.o HD.o.symm;obtain⟨p0,D,E,H,I,J,T,U⟩:=PP;obtain⟨vp,rq,iw,kz,ik,aj,au,ax,ay,aL,aN,ai⟩:=jE (cs:=lV.toArray) p0 D E H I J T U (by simpa using bK);obtain rfl:=toL iw;have l7:=Kz (bJ (d:=d) (w:=W5) D E H I J T U aj au ax ay aL aN ai);obtain⟨rD,rE,rfl,-,-,-⟩:=ai.open;simp only at hm bV;subst hm;have l8:=Kz bN;have ma:=Kz (show ak ((D,E,H,I,J,T,U):aA d)≤1048576 from bV);have d0:=s 0 _ rfl;have d1:=s 1 _ rfl;have d2:=s 2 _ rfl;have d3:=s 3 _ rfl;have d4:=s 4 _ rfl;have d5:=s 5 _ rfl;have d6:=s 6 _ rfl;have d7:=s 7 _ rfl;have zd:=blk d0;have jN:=bN;have jX:=Z.o;obtain⟨b,off,rfl,ae⟩:=j5 m jN;obtain⟨n0,n1,n2,n3,n4,n5,rR,rT,sw,sG,mf,sH,mh,mo,mq,mr,mH,mZ,p9,qo,nz,nM,nO,nP,nS,nZ,sN⟩:=KZ gm jN jX;have oh:=Kz (show NV t0 (m:Int)=n3 by unfold NV;rw[gG bN,←mf.o]);have oo:=Kz (show bq=(if pB (Da ((D,E,H,I,J,T,U):aA d))=true then mE (slotsOf (X,Y) t0 L V (m:Int)) n3 (iB t0 (m:Int)) (d+1) ((D,E,H,I,J,T,U):aA d) else 0) by rw[ah.o,←oh.o];rfl);have m0:(0:Int)≤(m:Int):=by omega
   have m1:(m:Int)<(t0.length:Int):=by omega
   have y0:=gD _ bL.o;have y1:=gF _ bL.o;have y2:=gH _ bL.o;have gM:=blk y0;have gT:=blk y2;clear s bK l5 ik aj au ax ay aL aN ai jX mh mo mq mr mH mZ nz nM nO nS nZ bV iw kz
   go_upto_region 4 with fail
   have sO:=fun(w':World) (h:Gr W5 w')=>(⟨h.keep d0,h.keep d1,h.keep d2,h.keep d3,h.keep d4,h.keep d5,h.keep d6,h.keep d7,h.keep y0,h.keep y1,h.keep y2,h.keep nP⟩:_∧_∧_∧_∧_∧_∧_∧_∧_∧_∧_∧_)
   refine wp_region_held_drew (S:=(fun w'=>Gr W5 w')) (by kernel_rfl) ((gd:Gr W5 W5.drew)) (fun oN=>?_)
   refine aK 0 20 ?_
   refine aK 2 22 ?_
   refine aK 3 23 ?_
   refine aK 4 24 ?_
   refine aK 6 26 ?_
   refine aK 8 28 ?_
   refine aK 10 30 ?_
   refine aK 15 35 ?_
   refine aK 16 36 ?_
   refine aK 1 21 ?_
   refine aK 5 25 ?_
   refine aK 9 29 ?_
   refine aK 11 31 ?_
   refine aK 17 37 ?_
   refine aK 12 32 ?_
   refine aK 13 33 ?_
   refine aK 14 34 ?_
   refine gy [7] ?_
   refine AllReadyH.cons rfl (fun K hK=>?_) AllReadyH.nil
   go_simp
   go_at_call 105
   refine(MR (X,Y) t0 m V _ (Rd.gr HG.o (tg Z)) (Rd.gr HT.o (tg Z)) (kQ.o.gr (tg Z)) bg.o dU.o kE.o l8.o (by rw[←dW.o];exact kL.o)).mono ?_;rintro e8 w8 ⟨v8,f8,rfl,aZ,oq,g8⟩;rw[←dW.o] at aZ;have ow:=Kz aZ;have cK:Gr W5 w8:=Gr.trans gd g8;skip;obtain⟨a8,k8,rfl,-,-,-⟩:=aZ.open;clear aZ oq g8;refine hK.out _ _ cK (fun sW=>?_);clear hK K
   try simp only[Act.put,uq1,uq2,uq3]
   refine gy [18] ?_
   refine AllReadyH.cons rfl (fun K hK=>?_) AllReadyH.nil
   go_simp
   go_at_call 106
   refine(AB t0 (m:Int) _ (Rd.gr HT.o (Z.o.trans (cK.trans gd))) dU.o).mono ?_;rintro e9 w9 ⟨v9,f9,rfl,cO,oz,g9⟩;have oG:=Kz cO;have dz:Gr W5 w9:=Gr.trans (cK.trans gd) g9;have oH:Gr w8 w9:=Gr.trans gd g9;obtain⟨a9,k9,rfl,-,-,-⟩:=cO.open;clear cO oz g9;refine hK.out _ _ dz (fun tJ=>?_);clear hK K
   try simp only[Act.put,uq1,uq2,uq3]
   refine gy [19] ?_
   refine AllReadyH.cons rfl (fun K hK=>?_) AllReadyH.nil
   go_simp
   go_at_call 104
   refine(NB _ f8 f9 _ _ _ ((D,E,H,I,J,T,U):aA d) (slotsOf (X,Y) t0 L V (m:Int)) n3 (iB t0 (m:Int)) bq _ (Rd.gr l7.o (dz.trans gd)) (ow.o.gr (oH.trans gd)) (oG.o.gr gd) ma.o oo.o.symm).mono ?_;rintro e7 w7 ⟨rfl,g7⟩;have j4:Gr W5 w7:=Gr.trans (dz.trans gd) g7;clear g7;refine hK.out _ _ j4 (fun uh=>?_);clear hK K
   try simp only[Act.put,uq1,uq2,uq3]
   refine aK 20 8 ?_
   refine wpAnyH_done (by kernel_rfl) ?_ _
   go_wp2_with fail;go_ret;exact⟨rfl,Z.o.trans (j4.trans gd)⟩
end Go.Proofs.YtdhighcpmcdmmaaGreat
