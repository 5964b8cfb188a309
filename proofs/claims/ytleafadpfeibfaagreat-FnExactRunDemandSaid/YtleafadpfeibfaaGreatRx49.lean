/- Contracts and laws towards ReadsOf, part 50 of 54. No condition. -/
import Derived.Shelf.SlSortCmp.WholeK
import Derived.Shelf.Lay
import Derived.Ground.SlsfProg
import Derived.Sort.LotA
import Derived.Sort.Walk0
import Derived.Test.YtleafadpfeibfaaGreatRx46
import Derived.Test.YtleafadpfeibfaaGreatRx45
set_option maxHeartbeats 32000000
set_option maxRecDepth 10000
set_option linter.unusedVariables false
set_option linter.unusedSimpArgs false
namespace Go.Proofs.YtleafadpfeibfaaGreat
open Go.RowKit
open _root_.List (append_nil nil_append take_length)
variable{d:Nat}
variable{w0:World}{c:Nat}
theorem AV(xs:List (GE d)):(xs.flatMap (gP d)).length≤(xs.map (cZ d)).sum:=by
 induction xs with
 |nil=>simp
 |cons y h q=>
  have:=tH d y;simp only[List.flatMap_cons,List.length_append,List.map_cons,List.sum_cons];omega
def zG(w0:World)(c d:Nat):Prop:=∀(fp:List Nat) (cs:Array Value) (x:GE d) (g:Nat) (W:World) (L:List ag) (h:Rd.rd fp w0 cs.toList x) (q:qY w0 c g W L) (B:L.length+cZ d x≤2097152),
 Calls Tryz.prog 248 #[.agg cs,.func (.func 249) #[] #[.pointer (some ⟨c,0,none⟩)]] W fun e w'=>e=.returned (.bool true)∧tK w0 c g W (L++gP d x) w'
theorem JF(O:zG w0 c d)(fp:List Nat)(cs:Array Value)(x:GE d)(g:Nat)(W:World)(L:List ag)(b:Nat)(B:Rd.rd fp w0 cs.toList x)(D:qY w0 c g W L)(I:L.length+cZ d x≤2097152)
  (hb:W.cell? ⟨b,0,none⟩=some (.func (.func 249) #[] #[.pointer (some ⟨c,0,none⟩)])):
  Calls Tryz.prog 265 #[.agg cs,.pointer (some ⟨b,0,none⟩)] W fun e w'=>e=.returned (.bool false)∧tK w0 c g W (L++gP d x) w':=by
 obtain⟨d1,rfl⟩:∃e,d=e+1:=by
  cases d with
  |zero=>exact PEmpty.elim x
  |succ e=>exact⟨e,rfl⟩
 have T:=Kz B;have U:=Kz D;have V:=Kz I;obtain⟨q0,q1,q2,q3,q4,q5,Z,lq,kq,rfl⟩:=eO (show Rd.rd (α:=aA d1) fp w0 cs.toList _ from B);have Y:=blk hb;clear B D I;go_in;go_wp2_with fail;refine(O _ _ x g _ L T.o (U.o.grow gd) V.o).mono ?_;rintro e w' ⟨rfl,X,h,q⟩;have J:=Kz h;have K:=Kz q;clear h q;go_wp2_with fail;go_ret;exact⟨rfl,X,J.o.grow gd,(je.dm gd).trans (K.o.trans (je.dm gd))⟩
theorem JL(hE:zG w0 c d)(fp:List Nat)(u:Value)(xs:List (GE d))(g:Nat)(W:World)(L:List ag)(b:Nat)(hu:SlR fp w0 u xs)(hS:qY w0 c g W L)(hl:L.length+(xs.map (cZ d)).sum≤2097152)
  (hb:W.cell? ⟨b,0,none⟩=some (.func (.func 249) #[] #[.pointer (some ⟨c,0,none⟩)])) (T:b≠c) (U:b≠g):
  Calls Tryz.prog 247 #[u,.func (.func 265) #[] #[.pointer (some ⟨b,0,none⟩)]] W fun e w'=>e=.returned (.int .i64 (-1))∧tK w0 c g W (L++xs.flatMap (gP d)) w':=by
 obtain⟨a,ca,rfl,h1,h2,h3⟩:=hu.open;have cK:=Tryz.call265;have HU:=Kz hu;have HS:=Kz hS;have HL:=Kz hl;have HB:=Kz hb;have V:=Kz (And.intro T U);clear hu hS hl hb T U;go_in;go_wp2_with fail
 go_loopw [8,5] (fun s8 s5 wr=>∃(k J:Nat),k≤xs.length∧Ky (qY w0 c J wr (L++(xs.take k).flatMap (gP d)))∧Ky (je c g W J wr)∧s8=.int .i64 k) (fun s8 s5 _=>xs.length - (intOf s8).toNat)
 case atStart=>exact⟨0,g,by omega,Kz (by simpa using HS.o.grow gd),Kz (je.dm gd),rfl⟩
 case round=>
  obtain⟨k,J,hk,B,K,rfl⟩:=hrel
  rename World=>W1
  by_cases D:k<xs.length
  ·have ai:=Kz (lI (cZ d) xs D)
   have aj:=Kz (nu (cZ d) xs (k+1));have ak:=Kz (show(xs.take (k+1)).flatMap (gP d)=(xs.take k).flatMap (gP d)++gP d xs[k] by rw[List.take_succ_eq_append_getElem D,List.flatMap_append,List.flatMap_singleton]);have au:=Kz (AV (xs.take k));have q:=Kz B.o.gr;obtain⟨b2,off,rfl,cO⟩:=h3 k D
   obtain⟨d1,rfl⟩:∃e,d=e+1:=by
    cases d with
    |zero=>exact PEmpty.elim (xs[k])
    |succ e=>exact⟨e,rfl⟩
   obtain⟨X,ax,h,I,-⟩:=HU.o.at D;have ay:=Kz I;obtain⟨yp,hyp⟩:=nm (xs[k]);rw[←hyp] at I;obtain⟨p0,p1,p2,p3,p4,p5,p6⟩:=yp;obtain⟨dB,dS,O,-,aZ,bg,bq,bB,bH,bL,Y⟩:=aF (cs:=X.toArray) p0 p1 p2 p3 p4 p5 p6 (show Rd.rd (α:=aA d1) ax w0 X.toArray.toList _ from I);obtain rfl:=toL O;obtain⟨dV,fe,rfl,-,-,-⟩:=Y.open;have z0:=q.o.keep (show w0.cell? ⟨b2,off+k*7,none⟩=some (.int .i64 p0) from h 0 _ rfl);replace h:∀j v,_→w0.cell? ⟨b2,off+k*7+j,none⟩=some v:=h;have z1:=q.o.keep (h 1 _ rfl);have z2:=q.o.keep (h 2 _ rfl);have z3:=q.o.keep (h 3 _ rfl);have z4:=q.o.keep (h 4 _ rfl);have z5:=q.o.keep (h 5 _ rfl);have z6:=q.o.keep (h 6 _ rfl);clear h3 O h I hyp aZ bg bq bB bH bL Y;have zb:=blk z0;have Z:=K.o.keep HB.o V.o.1 V.o.2;have bR:=Kz Z;clear Z;have iw:=zI1 k (by omega);have k0:(0:Int)≤(k:Int):=by omega
   have k1:(k:Int)<(xs.length:Int):=by omega
   go_wp2_with fail;refine(JF hE _ _ xs[k] J _ _ b ay.o (B.o.grow gd) (by have:=ai.o;have:=aj.o;have:=au.o;have:=HL.o;rw[List.length_append];omega) ((gd:Gr W1 _).keep bR.o)).mono ?_;rintro e w2 ⟨rfl,g2,ae,ah⟩;have bX:=Kz ae;have cB:=Kz ah;clear ae ah;go_wp2_with fail
   all_goals
    refine⟨⟨k+1,g2,by omega,Kz (by rw[ak.o,←List.append_assoc];exact bX.o.grow gd),Kz (K.o.trans ((je.dm gd).trans (cB.o.trans (je.dm gd)))),by go_num⟩,by simp[intOf];omega⟩
  ·obtain rfl:k=xs.length:=by omega
   rw[take_length] at B;go_wp2_with fail;go_ret;exact⟨rfl,J,B.o.grow gd,K.o.trans (je.dm gd)⟩
theorem II(J:zG w0 c d)(fp:List Nat)(u:Value)(xs:List (GE d))(g:Nat)(W:World)(L:List ag)(b:Nat)(hu:SlR fp w0 u xs)(h:qY w0 c g W L)(K:L.length+(xs.map (cZ d)).sum≤2097152)
  (hb:W.cell? ⟨b,0,none⟩=some (.func (.func 249) #[] #[.pointer (some ⟨c,0,none⟩)])) (q:b≠c) (B:b≠g):
  Calls Tryz.prog 223 #[u,.func (.func 265) #[] #[.pointer (some ⟨b,0,none⟩)]] W fun e w'=>e=.returned (.bool false)∧tK w0 c g W (L++xs.flatMap (gP d)) w':=by
 have O:=Kz h;clear h;go_in
 go_wp2_with (go_at_call 247;refine(JL J fp _ xs g _ L b hu (O.o.grow gd) K ((gd:Gr W _).keep hb) q B).mono ?_;rintro e w1 ⟨rfl,g1,D,I⟩)
 go_ret;exact⟨rfl,g1,D.grow gd,(je.dm gd).trans (I.trans (je.dm gd))⟩
theorem JS(hE:zG w0 c d):zG w0 c (d+1):=by
 intro fp cs x g w L hx hS hl
 have HS:=Kz hS;clear hS;obtain⟨q0,q1,q2,q3,q4,q5,q6,U,V,cK,rfl,rfl,-,cO,dB,dS,dV,fe,fu,aj,bX,cB⟩:=KU hx;have HX:=Kz hx;have ak:=Kz aj;clear hx;rw[wE] at hl;have HL:=Kz hl;rw[wW];obtain⟨D,q⟩:∃P:List ag,P=if q0=3 then[(q2,q5)] else[]:=⟨_,rfl⟩
 have au:=Kz (show D.length≤1 by rw[q];split<;>simp);have ai:=Kz q;rw[←q];clear hl q;go_in;go_wp2_with fail;generalize T:(w.alloc (.cells #[.int .i64 q0,.int .i64 q1,.int .i64 q2,.int .i64 q3,.string q4,.string q5,.slice U q6.length V] 165)).alloc (.cells #[.func (.func 249) #[] #[.pointer (some ⟨c,0,none⟩)]] 264)=B;have gB:Gr w B:=gb T;have J:B.cell? ⟨w.heap.size,6,none⟩=some (.slice U q6.length V):=by rw[←T];exact Gr.keep (Gr.alloc (Gr.refl _) _) (aJ rfl rfl)
 have f0:B.cell? ⟨w.heap.size+1,0,none⟩=some (.func (.func 249) #[] #[.pointer (some ⟨c,0,none⟩)]):=by rw[←T];exact aJ (by simp) rfl
 have ax:=Kz gB;have X:=Kz (HS.o.grow gB);have h:=Kz HS.o.lt;have ay:=Kz J;have aZ:=Kz f0;have zf:=blk f0;have zb:=blk J;clear T gB J;have gD:=Tryz.call249;refine(FV _ _ (q0,q1,q2,q3,q4,q5,q6) (Rd.gr HX.o X.o.gr) X.o (by have:=HL.o;omega)).mono ?_;rintro e w2 ⟨rfl,g2,Y,I⟩;have bg:=Kz (show qY w0 c g2 w2 (L++D) from by rw[ai.o];exact Y);have K:=Kz I;have J:=I.keep ay.o (by have:=h.o;omega) (by have:=h.o;omega);have O:=Kz (I.keep aZ.o (by have:=h.o;omega) (by have:=h.o;omega));have bq:=K.o.wr.size
 have Z:w.heap.size+1≠g2:=by
  have h1:=h.o;rcases K.o.nw with e|e<;>omega
 have bB:=Kz Z;have f0:=O.o;have zb:=blk J;clear Y I bq Z;have bH:=Kz (show(L++D).length+(q6.map (cZ d)).sum≤2097152 by have:=HL.o;have:=au.o;rw[List.length_append];omega)
 go_wp2_with (first|(go_at_call 223;refine(II hE _ _ q6 g2 _ (L++D) (w.heap.size+1) ak.o (bg.o.grow gd) bH.o ((gd:Gr w2 _).keep O.o) (by have:=h.o;omega) bB.o).mono ?_;rintro e w3 ⟨rfl,g3,ae,ah⟩;have bL:=Kz ae;have bR:=Kz ah;clear ae ah))
 go_ret;refine⟨rfl,g3,?_,?_⟩
 ·rw[←List.append_assoc]
  exact bL.o.grow gd
 ·exact(je.dm ax.o).trans (K.o.trans ((je.dm gd).trans (bR.o.trans (je.dm gd))))
theorem EJ(w0:World)(c:Nat):(d:Nat)→zG w0 c d
 |0=>by intro fp cs x;exact PEmpty.elim x
 |d+1=>JS (EJ w0 c d)
open Go.RowKit Go.Shelf Go.Lib Go.Sort
def soR:Go.Shelf.Ren:=⟨fun|6=>250|15=>267|14=>266|28=>287|29=>288|20=>279|21=>280|22=>281|23=>282|24=>283|25=>284|26=>285|27=>286|46=>295|47=>296|48=>297|49=>298|50=>299|57=>302|n=>n,fun|22=>254|24=>181|25=>279|3=>3|39=>242|0=>0|53=>299|55=>301|4=>4|46=>292|45=>291|50=>296|5=>5|9=>9|66=>303|70=>307|76=>309|77=>148|n=>n,fun|n=>n⟩
theorem soL:Go.Proofs.SlLaysF0.n6 Tryz.prog soR:={
  mixed:=by kernel_rfl
  f6:=⟨Tryz.f250.name,by decide,Tryz.func250.trans (congrArg some (by kernel_rfl))⟩
  f14:=⟨Tryz.f266.name,by decide,Tryz.func266.trans (congrArg some (by kernel_rfl))⟩
  f15:=Tryz.func267.trans (congrArg some (by kernel_rfl))
  f20:=⟨Tryz.f279.name,by decide,Tryz.func279.trans (congrArg some (by kernel_rfl))⟩
  f21:=⟨Tryz.f280.name,by decide,Tryz.func280.trans (congrArg some (by kernel_rfl))⟩
  f22:=⟨Tryz.f281.name,by decide,Tryz.func281.trans (congrArg some (by kernel_rfl))⟩
  f23:=⟨Tryz.f282.name,by decide,Tryz.func282.trans (congrArg some (by kernel_rfl))⟩
  f24:=⟨Tryz.f283.name,by decide,Tryz.func283.trans (congrArg some (by kernel_rfl))⟩
  f25:=⟨Tryz.f284.name,by decide,Tryz.func284.trans (congrArg some (by kernel_rfl))⟩
  f26:=⟨Tryz.f285.name,by decide,Tryz.func285.trans (congrArg some (by kernel_rfl))⟩
  f27:=⟨Tryz.f286.name,by decide,Tryz.func286.trans (congrArg some (by kernel_rfl))⟩
  f28:=Tryz.func287.trans (congrArg some (by kernel_rfl))
  f29:=Tryz.func288.trans (congrArg some (by kernel_rfl))
  f46:=⟨Tryz.f295.name,by decide,Tryz.func295.trans (congrArg some (by kernel_rfl))⟩
  f47:=Tryz.func296.trans (congrArg some (by kernel_rfl))
  f48:=Tryz.func297.trans (congrArg some (by kernel_rfl))
  f49:=⟨Tryz.f298.name,by decide,Tryz.func298.trans (congrArg some (by kernel_rfl))⟩
  f50:=⟨Tryz.f299.name,by decide,Tryz.func299.trans (congrArg some (by kernel_rfl))⟩
  f57:=⟨Tryz.f302.name,by decide,Tryz.func302.trans (congrArg some (by kernel_rfl))⟩
  t0:=Tryz.underlying0
  a0:=Tryz.isAgg0
  z0:=Tryz.sizeOf0
  v0:=Tryz.zeroValue0
  t3:=Tryz.underlying3
  a3:=Tryz.isAgg3
  z3:=Tryz.sizeOf3
  v3:=Tryz.zeroValue3
  t4:=Tryz.underlying4
  a4:=Tryz.isAgg4
  z4:=Tryz.sizeOf4
  v4:=Tryz.zeroValue4
  t5:=Tryz.underlying5
  a5:=Tryz.isAgg5
  z5:=Tryz.sizeOf5
  v5:=Tryz.zeroValue5
  t9:=Tryz.underlying9
  a9:=Tryz.isAgg9
  z9:=Tryz.sizeOf9
  v9:=Tryz.zeroValue9
  t22:=Tryz.underlying254
  a22:=Tryz.isAgg254
  z22:=Tryz.sizeOf254
  v22:=Tryz.zeroValue254
  t25:=Tryz.underlying279
  a25:=Tryz.isAgg279
  z25:=Tryz.sizeOf279
  v25:=Tryz.zeroValue279
  t39:=Tryz.underlying242
  a39:=Tryz.isAgg242
  z39:=Tryz.sizeOf242
  v39:=Tryz.zeroValue242
  t45:=Tryz.underlying291
  a45:=Tryz.isAgg291
  z45:=Tryz.sizeOf291
  v45:=Tryz.zeroValue291
  t46:=Tryz.underlying292
  a46:=Tryz.isAgg292
  z46:=Tryz.sizeOf292
  v46:=Tryz.zeroValue292
  t50:=Tryz.underlying296
  a50:=Tryz.isAgg296
  z50:=Tryz.sizeOf296
  v50:=Tryz.zeroValue296
  t53:=Tryz.underlying299
  a53:=Tryz.isAgg299
  z53:=Tryz.sizeOf299
  v53:=Tryz.zeroValue299
  t55:=Tryz.underlying301
  a55:=Tryz.isAgg301
  z55:=Tryz.sizeOf301
  v55:=Tryz.zeroValue301
  t66:=Tryz.underlying303
  a66:=Tryz.isAgg303
  z66:=Tryz.sizeOf303
  v66:=Tryz.zeroValue303
  t70:=Tryz.underlying307
  a70:=Tryz.isAgg307
  z70:=Tryz.sizeOf307
  v70:=Tryz.zeroValue307
  t76:=Tryz.underlying309
  a76:=Tryz.isAgg309
  z76:=Tryz.sizeOf309
  v76:=Tryz.zeroValue309
  t77:=Tryz.underlying148
  a77:=Tryz.isAgg148
  z77:=Tryz.sizeOf148
  v77:=Tryz.zeroValue148}
def nJ(x:ag):List Value:=[.int .i64 x.1,.string x.2]
theorem G9(x y:ag):ltOf sI x y=(decide (x.1<y.1)||(decide (x.1=y.1)&&ltStr x.2.toList y.2.toList)):=by
 unfold ltOf sI wJ sM tN ltStr;rw[bytesLess_eq]
 by_cases h1:x.1<y.1
 ·simp[h1]
 ·by_cases D:y.1<x.1
  ·have h:x.1≠y.1:=by omega
   simp[h1,D,h]
  ·have h:x.1=y.1:=by omega
   by_cases q:x.2.toList<y.2.toList
   ·simp[h,q]
   ·by_cases B:x.2.toList=y.2.toList
    ·have I:¬y.2.toList<y.2.toList:=by rw[←B] at q ⊢;exact q
     simp[h,B,I]
    ·simp[h,q,B]
theorem JJ:SWO (ltOf sI) where
 irrefl x:=by rw[G9,swo_ltStr.irrefl];simp
 trans x y z h1 B:=by
  rw[G9] at*;simp only[Bool.or_eq_true,Bool.and_eq_true,decide_eq_true_eq] at*;rcases h1 with h1|⟨h1,h⟩<;>rcases B with B|⟨B,q⟩
  ·exact .inl (by omega)
  ·exact .inl (by omega)
  ·exact .inl (by omega)
  ·exact .inr ⟨by omega,swo_ltStr.trans _ _ _ h q⟩
 ntrans x y z h1 B:=by
  rw[G9] at*;simp only[Bool.or_eq_false_iff,Bool.and_eq_false_iff,decide_eq_false_iff_not] at*;refine⟨by omega,?_⟩;rcases h1.2 with h|h
  ·exact .inl (by omega)
  ·rcases B.2 with q|q
   ·exact .inl (by omega)
   ·exact .inr (swo_ltStr.ntrans _ _ _ h q)
theorem Em(blk off size:Nat)(w:World):CmpLays Tryz.prog 251 #[] nJ 2 sI blk off size w:=
 fun m os q _ x y=>(xh x y _).mono fun e w' h=>⟨h.1,by
  obtain⟨z,hz⟩:=h.2;exact⟨z.drawn,z.objs,hz⟩⟩
theorem Cc{fp:List Nat}{b off D:Nat}(xs:List ag)(w:World)(hu:SlR fp w (.slice (some ⟨b,off,none⟩) xs.length D) xs)(hb:b<w.heap.size)(hlen:xs.length≤1048576):
  Calls Tryz.prog 250 #[.slice (some ⟨b,off,none⟩) xs.length D,.func (.func 251) #[] #[]] w fun e w'=>e=.returned (.tuple #[])∧∃U fq,(∀o:ag,o∈U↔o∈xs)∧U.length=xs.length∧SlR fq w' (.slice (some ⟨b,off,none⟩) U.length D) U∧fq.Sublist [b]∧Wr [b] w w':=by
 have h3:=hu.open;obtain⟨a,c,hv,ah,ai,-⟩:=h3;injection hv with _ _ hc;subst hc
 have hH:HoldsK nJ 2 w b off xs.toArray:=by
  intro j q
  have X:j<xs.length*2:=by simpa[size_flatK] using q
  refine⟨?_,hu.kR X⟩;rw[get_flatK _ _ _ _ (by simpa using X)];have hi:j / 2<xs.length:=by omega
  have V:=hu.iX hi;have I:xs.toArray[j / 2]! =xs[j / 2]:=by simp[hi]
  rw[I];have J:j % 2=0∨j % 2=1:=by omega
  rcases J with J|J
  ·rw[J,show off+j=off+j / 2*2 by omega];exact V.1
  ·rw[J,show off+j=off+j / 2*2+1 by omega];exact V.2.1
 have Y:=AnyQ.slices_SortFunc soL 2 Tryz.isAgg181 Tryz.sizeOf181 nJ (fun _=>rfl) (fun x v hv=>by simp[nJ] at hv;rcases hv with rfl|rfl<;>rfl) sI JJ 251 #[] b off D xs.toArray w Tryz.call251 (Em b off _ w) hH hb (by simp;omega);refine(show Calls Tryz.prog 250 _ _ _ from Y).mono ?_;rintro e w' ⟨rfl,h,n,os,Z,-,rfl⟩;refine⟨rfl,h.toList,?_⟩;have hs:h.size=xs.length:=by simpa using Z.1
 have K:=holdsK_sortWorldK_c nJ 2 w b off xs.toArray h n os hH hb (by simpa using hs)
 have B:h.toList.Perm xs:=by
  have:=Z.2.2;rw[Array.toList_extract,Array.toList_extract] at this;have I:xs.length=h.toList.length:=by simp[hs]
  simp only[List.extract_eq_take_drop,List.drop_zero,Nat.sub_zero,List.size_toArray] at this;rw[take_length,I,take_length] at this;exact this
 have hgood:∀(o:ag),o∈xs→(Lit.int .i64 o.1).wf=true∧o.2.size≤maxLen:=by
  intro o ho
  obtain⟨i,hi,rfl⟩:=List.mem_iff_getElem.1 ho;exact(hu.iX hi).2.2
 have O:∀j (q:j<h.toList.length),(sortWorldK nJ 2 w b off n h os).cell? ⟨b,off+j*2,none⟩=some (.int .i64 h.toList[j].1)∧(sortWorldK nJ 2 w b off n h os).cell? ⟨b,off+j*2+1,none⟩=some (.string h.toList[j].2)∧(Lit.int .i64 h.toList[j].1).wf=true∧h.toList[j].2.size≤maxLen:=by
  intro j q
  have T:j<h.size:=by simpa using q
  have I:h[j]! =h.toList[j]:=by simp[T]
  have c0:=K.cell (i:=j) (c:=0) T (by omega);have c1:=K.cell (i:=j) (c:=1) T (by omega);rw[I] at c0 c1;exact⟨c0.1,c1.1,hgood _ (B.mem_iff.1 (List.getElem_mem q))⟩
 obtain⟨fq,V,h6⟩:=SlR.EI (cap:=D) O (fun j q=>(K j (by simpa[size_flatK] using q)).2) (by simp;omega) (by simp;unfold bn;omega);refine⟨fq,fun o=>B.mem_iff,by simpa using hs,V,h6,?_⟩;refine⟨rfl,rfl,rfl,size_sortWorldK_c nJ 2 w b off n h os,Nat.le_add_right _ _,fun k hk hn=>?_⟩;have ae:k≠b:=by simpa using hn
 show(grow (putRowK nJ 2 (Sort.ahead w n) b off h) os).heap[k]?=_
 rw[heap_grow_old _ _ (by rw[size_putRowK];exact hk)]
 show((Sort.ahead w n).heap.modify b _)[k]?=_
 rw[Array.getElem?_modify,if_neg (fun e=>ae e.symm)];rfl
theorem Ba(fp:List Nat)(cs:Array Value)(x:aA d)(w:World)(hx:Rd.rd fp w cs.toList x)(hl:cZ (d+1) x≤1048576):Calls Tryz.prog 226 #[.agg cs] w (Ho (gP (d+1) x) w):=by
 have HL:=Kz hl;have X:=Kz (tH (d+1) x);obtain⟨q0,q1,q2,q3,q4,q5,q6,Y,Z,gF,rfl,rfl,-,gT,gV,gX,ik,iw,kr,ku,fe,fu⟩:=KU hx;have HX:=Kz hx;clear hx;clear hl;go_in;go_wp2_with fail;obtain⟨B,J⟩:=nm (((w.alloc (.cells #[.int .i64 q0,.int .i64 q1,.int .i64 q2,.int .i64 q3,.string q4,.string q5,.slice Y q6.length Z] 165)).alloc (.cells #[] 181)).alloc (.cells #[.slice (some ⟨w.heap.size+1,0,none⟩) 0 0] 254));rw[←J];have gB:Gr w B:=by rw[J];exact gd
 have vB:az B (w.heap.size+1+1) 254 [.slice (some ⟨w.heap.size+1,0,none⟩) 0 0]:=by rw[J];exact az.new (by simp)
 have oB:bE (α:=ag) w 181 B (.slice (some ⟨w.heap.size+1,0,none⟩) 0 0) [] []:=by
  rw[J];exact(bE.kF (α:=ag) (w0:=w) (w:=w.alloc (.cells #[.int .i64 q0,.int .i64 q1,.int .i64 q2,.int .i64 q3,.string q4,.string q5,.slice Y q6.length Z] 165)) 181 (by simp) (by simp)).gr gd
 have HS:=Kz (show qY w (w.heap.size+1+1) (w.heap.size+1) B [] from⟨gB,by omega,by omega,vB.frozen 0,_,[],vB.c 0,oB,rfl,rfl⟩);clear J vB oB;refine(EJ w (w.heap.size+1+1) (d+1) _ _ (q0,q1,q2,q3,q4,q5,q6) (w.heap.size+1) B [] HX.o HS.o (by have:=HL.o;simp;omega)).mono ?_;rintro e w2 ⟨rfl,g2,q,ay⟩;rw[nil_append] at q;obtain⟨US,K⟩:=nm (gP (d+1) ((q0,q1,q2,q3,q4,q5,q6):aA d));rw[←K] at q X ⊢;have ae:US.length≤1048576:=by have h1:=X.o;have h2:=HL.o;omega
 have O:=Kz ae;have aZ:=Kz q.gr;have ah:=q.ne;have bg:=q.lt;obtain⟨v2,gD,bq,I,bB,D⟩:=q.row;obtain⟨fr,ai,bH⟩:=I.slR (by unfold bn;omega)
 obtain⟨cap,rfl⟩:∃cap,v2=.slice (some ⟨g2,0,none⟩) US.length cap:=by
  obtain⟨⟨ky,ho,-⟩,-⟩:=I;rcases ho.2 with⟨rfl,-⟩|⟨g',cap,cur,rfl,-⟩
  ·cases D
  ·injection D with D
   simp only at D;subst D;exact⟨cap,rfl⟩
 have bL:=Kz ai;have bR:=Kz bq;have T:=Kz (And.intro ah bg);have ax:=Kz K;clear K ae q ay I bB D bH ai ah;go_wp2_with fail;refine(Cc US _ (bL.o.gr gd) (by have h:=T.o.2.2.1;have h2:=(gd:Gr w2 _).size;omega) O.o).mono ?_;rintro e w3 ⟨rfl,ys,fq,hmem,hlen,U,aj,V⟩;rw[hlen] at U;have bX:=Kz hmem;have cB:=Kz hlen;have cK:=Kz U;have ak:=Kz aj;have cO:=Kz V;have lq:=V.aO ((gd:Gr w2 _).keep bR.o) (by have:=T.o.1;simpa using this);clear hmem hlen U aj V;go_wp2_with fail;refine(xH ys _ (by exact(cK.o.gr gd)) (ak.o.nodup (by simp)) (by have h1:=cB.o;have h2:=O.o;omega)).mono ?_;rintro e w4 ⟨v4,f4,zs,rfl,dB,dS,oH,dV⟩;go_wp2_with fail;go_ret;refine⟨v4,f4,zs,rfl,dB,fun z=>by rw[dS z,bX.o z,ax.o],?_⟩;have au:w.heap.size≤g2:=T.o.2.2.2;refine Gr.wr (Gr.trans (Gr.wr (tg aZ) cO.o (fun b hb=>by rw[List.mem_singleton.1 hb];exact au)) gd) dV (fun b hb=>?_);have:=ak.o.subset hb;rw[List.mem_singleton.1 this];exact au
theorem FM{fg fr fo:List Nat}{cg cr co:Array Value}(g:af d)(r:aW d)(o:ag)(B br:Nat)(tg O:TypeId)(w:World)(hg:Rd.rd fg w cg.toList g)(hr:Rd.rd fr w cr.toList r)(q:Rd.rd fo w co.toList o)(vg:az w B tg cg.toList)(D:az w br O cr.toList):
  Qz 227 #[.agg co,.pointer (some ⟨B,0,none⟩),.pointer (some ⟨br,0,none⟩)] w (.bool (!pB (qp g r o))):=by
 obtain⟨bb,h⟩:∃b:Bool,b=pB (qp g r o):=⟨_,rfl⟩;have I:=Kz h;rw[←h];clear h;have T:=Kz hg;obtain⟨g0,g1,ag0,kg0,ax,ag1,kg1,ay,rfl,rfl,-,aZ,U,V,bq,X,Y⟩:=yt hg;clear hg;have Z:=Kz hr;obtain⟨r0,r1,r2,r3,r4,r5,bB,bH,bL,bR,bX,cB,cK,cO,dB,rfl,rfl,-,dS,dV,fe,ae,ah,fu,ai,aj,gB,ak,au⟩:=KV hr;clear hr;have HO:=Kz q;obtain⟨o0,o1,rfl,rfl,-,gD,gF⟩:=KT q;clear q;obtain⟨J,gT⟩:=vg.c2;obtain⟨K,gV,gX,ik,iw,kr⟩:=D.c6;have ku:=blk J;have ky:=blk K;clear vg D;delta Qz;go_in;go_wp2_with fail;refine(xK (g0,g1) (r0,r1,r2,r3,r4,r5) (o0,o1) _ (Rd.gr T.o gd) (Rd.gr Z.o gd) (Rd.gr HO.o gd)).mono ?_;rw[←I.o];rintro e w' ⟨rfl,x3,rfl⟩;go_wp2_with fail;go_ret;exact⟨rfl,gd⟩
theorem Hg{fg fr fx:List Nat}{cg cr cx:Array Value}(g:af d)(r:aW d)(x:aA d)(B br:Nat)(tg V:TypeId)(w:World)(hg:Rd.rd fg w cg.toList g)(hr:Rd.rd fr w cr.toList r)(J:Rd.rd fx w cx.toList x)(vg:az w B tg cg.toList)(X:az w br V cr.toList)(Y:cZ (d+1) x≤1048576):
  Qz 225 #[.agg cx,.pointer (some ⟨B,0,none⟩),.pointer (some ⟨br,0,none⟩)] w (.bool (!pB (kg g r x))):=by
 have Z:=Kz hg;have HR:=Kz hr;have HX:=Kz J;have VG:=Kz vg;have VR:=Kz X;have HL:=Kz Y;obtain⟨US,q⟩:=nm (gP (d+1) x);have I:=Kz q;obtain⟨R,K⟩:=nm (pB (kg g r x));rw[←K];have O:=Kz (show R=pB (∀o∈US,qp g r o) by rw[K,q];rfl);obtain⟨x0,x1,x2,x3,x4,x5,ax,lx,kx,rfl⟩:=eO J;clear hg hr J vg X Y K q;delta Qz;go_in;go_wp2_with fail;refine(Ba _ _ x _ (Rd.gr HX.o gd) HL.o).mono ?_;rintro e w' ⟨u,fq,T,rfl,hs,hm,z1,rfl⟩;have HS:=Kz hs;have HM:=Kz (show R=pB (∀o∈T,qp g r o) from O.o.trans (iO ⟨fun h o U=>h o (by rw[I.o];exact(hm o).1 U),fun h o U=>h o ((hm o).2 (by rw[←I.o];exact U))⟩));obtain⟨aq,kq,rfl,-,-,-⟩:=hs.open;clear hs hm
 have HT:=Kz (fun(W:World) (D:Gr w W)=>show TestOccurrence W 227 #[.pointer (some ⟨B,0,none⟩),.pointer (some ⟨br,0,none⟩)] (fun o=>!pB (qp g r o)) T from
  ⟨Tryz.call227,fun z _ x fp cs hz=>FM g r z B br tg V _ (Rd.gr Z.o (D.trans gd)) (Rd.gr HR.o (D.trans gd)) hz (VG.o.gr (D.trans gd)) (VR.o.gr (D.trans gd))⟩)
 go_wp2_with (first|(go_at_call 216;refine(jo _ _ T _ _ (fun o=>!pB (qp g r o)) _ (HS.o.gr gd) (HT.o _ gd)).mono ?_;rintro e w' ⟨rfl,x2,rfl⟩;rw[wu,←HM.o]))
 go_ret;exact⟨rfl,gd⟩
theorem Fh{α:Type}(f:α→Nat)(xs:List α){k:Nat}(h:k<xs.length):f xs[k]+1≤wtL f xs:=by
 have h1:=eZ f xs k h;have q:=gJ f xs (k+1);unfold wtL;omega
theorem Ib{r:aW d}{y:GE (d+1)}(h:y∈nH r):aS (y:aA d)+1≤bF r:=by
 obtain⟨J,K,O,T,D,B⟩:=r;have hw:bF (J,K,O,T,D,B)=J.size+K.size+wtL ByteArray.size O+wtL aU D+wtL aI B:=rfl;rcases List.mem_append.1 h with I|I
 ·obtain⟨q,V,rfl⟩:=List.mem_map.1 I
  obtain⟨i,hi,rfl⟩:=List.mem_iff_getElem.1 V;have h1:=Fh aU D hi;have X:aU D[i]=dn D[i].1+aS D[i].2:=rfl;simp only at*;omega
 ·obtain⟨c,hc,I⟩:=List.mem_flatMap.1 I
  obtain⟨i,hi,rfl⟩:=List.mem_iff_getElem.1 hc;have h1:=Fh aI B hi;have X:aI B[i]=B[i].1.size+B[i].2.1.size+aS B[i].2.2.1+aS B[i].2.2.2:=rfl;rcases List.mem_cons.1 I with Y|I
  ·have U:∀z:aA d,z=B[i].2.2.1→aS z+1≤bF (J,K,O,T,D,B):=fun z hz=>by rw[hz];omega
   exact U y Y
  ·have U:∀z:aA d,z=B[i].2.2.2→aS z+1≤bF (J,K,O,T,D,B):=fun z hz=>by rw[hz];omega
   exact U y (List.mem_singleton.1 I)
theorem Ex{g:af d}{r:aW d}:(∀y∈nH r,kg g r y)↔kH g r:=by
 constructor
 ·intro h
  exact⟨fun q D=>h q.2 (List.mem_append_left _ (List.mem_map_of_mem D)),fun c hc=>⟨h c.2.2.1 (List.mem_append_right _ (List.mem_flatMap.2 ⟨c,hc,by simp⟩)),h c.2.2.2 (List.mem_append_right _ (List.mem_flatMap.2 ⟨c,hc,by simp⟩))⟩⟩
 ·rintro⟨h1,I⟩ y B
  rcases List.mem_append.1 B with B|B
  ·obtain⟨q,D,rfl⟩:=List.mem_map.1 B
   exact h1 q D
  ·obtain⟨c,hc,B⟩:=List.mem_flatMap.1 B
   simp only[List.mem_cons,List.not_mem_nil,or_false] at B;rcases B with rfl|rfl
   ·exact(I c hc).1
   ·exact(I c hc).2
theorem xG:IE d:=by
 intro fg fr cg cr g r w hg hr hl V
 have au:=Kz hg;have ax:=Kz hr;have X:=Kz V;obtain⟨g0,g1,ag0,kg0,cO,ag1,kg1,dB,rfl,rfl,-,dS,aZ,bg,dV,bq,bB⟩:=yt hg;clear hg;have HR:=Kz hr;obtain⟨h,q,D,I,J,K,Y,Z,fe,ae,ah,fu,ai,aj,gD,rfl,rfl,-,gF,gT,gV,bH,bL,gX,bR,bX,ik,cB,cK⟩:=KV hr;clear hr;obtain⟨R,hR⟩:=nm (pB (kH (g0,g1) (h,q,D,I,J,K)));have ay:=Kz hR;rw[←hR];clear hl V hR;go_in;go_wp2_with fail;generalize T:((w.alloc (.cells #[.slice ag0 g0.length kg0,.slice ag1 g1.length kg1] 39)).alloc (.cells #[.string h,.string q,.slice Y D.length Z,.bool I,.slice ae J.length ah,.slice ai K.length aj] 128))=B;have gB:Gr w B:=gb T;have VG:=Kz (show az B w.heap.size 39 (Array.toList #[.slice ag0 g0.length kg0,.slice ag1 g1.length kg1]) from by rw[←T];exact(az.new (A:=w) rfl).gr gd);have VR:=Kz (show az B (w.heap.size+1) 128 (Array.toList #[.string h,.string q,.slice Y D.length Z,.bool I,.slice ae J.length ah,.slice ai K.length aj]) from by rw[←T];exact az.new (by simp));have O:=Kz gB;clear T gB;refine(yD (h,q,D,I,J,K) _ (Rd.gr HR.o O.o) X.o).mono ?_;rintro e w' ⟨v,fq,rfl,hs,x1,rfl⟩;have HS:=Kz hs;obtain⟨aq,kq,rfl,-,-,-⟩:=hs.open;clear hs
 have HT:=Kz (fun(W:World) (U:Gr B W)=>show TestExpr W 225 #[.pointer (some ⟨w.heap.size,0,none⟩),.pointer (some ⟨w.heap.size+1,0,none⟩)] (fun y:GE (d+1)=>!pB (kg (g0,g1) (h,q,D,I,J,K) y)) (nH (h,q,D,I,J,K)) from
  ⟨Tryz.call225,fun z hz x fp cs hr=>Hg (g0,g1) (h,q,D,I,J,K) z w.heap.size (w.heap.size+1) _ _ _ (Rd.gr au.o (O.o.trans (U.trans gd))) (Rd.gr ax.o (O.o.trans (U.trans gd))) hr (VG.o.gr (U.trans gd)) (VR.o.gr (U.trans gd)) (by
   have h1:=AQ (d+1) z;have h2:wtE (d+1) z=aS (z:aA d):=rfl;have h3:=Ib hz;have h4:=X.o;omega)⟩)
 go_wp2_with fail;have HC:=kK (d:=d+1) _ _ (nH (h,q,D,I,J,K)) _ _ (fun y:GE (d+1)=>!pB (kg (g0,g1) (h,q,D,I,J,K) y)) _ (HS.o.gr gd) (HT.o _ gd)
 have ak:((nH (h,q,D,I,J,K)).any fun y:GE (d+1)=>!pB (kg (g0,g1) (h,q,D,I,J,K) y))=!R:=by
  rw[ay.o,←iO Ex];exact wu
 refine HC.mono ?_
 rintro e w' ⟨he,x2,rfl⟩;obtain rfl:e=.returned (.bool (!R)):=he.trans (congrArg (fun b=>Ending.returned (.bool b)) ak);go_wp2_with fail;go_ret;exact⟨rfl,O.o.trans gd⟩
def KH(k:Int):aT→aT×Int
 |(_,_,_,_,_,q5)=>((k,k+1,k+1+1,k+1+1+1,mtx (k+1+1+1+1),(oq (k+1+1+1+1+1) q5).1),(oq (k+1+1+1+1+1) q5).2)
theorem BX(k:Int)(x:aT):k≤(KH k x).2∧(KH k x).2≤k+16*(1+fT x):=by
 obtain⟨q0,q1,q2,q3,q4,q5⟩:=x;have h:=Di (k+1+1+1+1+1) q5;have hw:fT (q0,q1,q2,q3,q4,q5)=(q4.size)+(q5.length):=rfl;simp only[KH] at*;omega
theorem wP(k:Int)(x:aT):k≤(KH k x).2:=(BX k x).1
def kz(k:Int)(x:List aT):List aT×Int:=gK KH k x
theorem Ab(k:Int)(x:List aT):k≤(kz k x).2∧(kz k x).2≤k+16*jG x:=by
 have:=jN KH fT BX x k;unfold kz jG;exact this
theorem Dl(k:Int)(x:List aT):k≤(kz k x).2:=(Ab k x).1
theorem yQ(fp:List Nat)(u:Value)(xs:List aT)(k:Int)(w:World)(hu:SlR fp w u xs)(cO:fp.Nodup)(h0:0<k)(h1:(kz k xs).2≤4398046511104):
  Calls Tryz.prog 51 #[u,.int .i64 k] w fun e w'=>e=.returned (.int .i64 (kz k xs).2)∧SlR fp w' u (kz k xs).1∧Wr fp w w':=by
 obtain⟨a,ca,rfl,g1,g2,g3⟩:=hu.open;have H1:=Kz h1;clear h1;go_in
 go_wp2
 go_loopw [5,1] (fun s5 s1 wr=>∃(i:Nat) (m:Int),i≤xs.length∧Ky (m=(gK KH k (xs.take i)).2)∧SlR fp wr (.slice a xs.length ca) (markT KH k xs i)∧Wr fp w wr∧s5=.int .i64 i∧s1=.int .i64 m) (fun s5 _ _=>xs.length - (intOf s5).toNat)
 case atStart=>exact⟨0,k,by omega,Kz (by simp[gK]),by rw[iE];exact hu,Wr.refl _ _,rfl,rfl⟩
 case round=>
  obtain⟨i,m,hi,hm,hs,hW,rfl,rfl⟩:=hrel;have HS:=Kz hs;have HW:=Kz hW;clear hs hW
  by_cases D:i<xs.length
  ·obtain⟨b,off,rfl,hb⟩:=g3 i D
   have aZ:i<(markT KH k xs i).length:=by rw[iJ];exact D
   obtain⟨cs,fq,hc,hr,hsub,dB,U,V,hz,K⟩:=HS.o.focus cO aZ
   have HP:=Kz K;rw[kQ KH k xs D] at hr;obtain⟨y,hy⟩:=nm (xs[i]);rw[←hy] at hr;have HY:=Kz hy;have bd:=dG KH wP k xs (i+1);have aj:=dG KH wP k xs i;rw[dF KH k xs D,←hm.o,←hy] at bd;rw[←hm.o] at aj;obtain⟨q0,q1,q2,q3,q4,q5⟩:=y;obtain⟨ky,B,ak,au,dS,dV,fe,fu,gB,X⟩:=bA (cs:=cs.toArray) q0 q1 q2 q3 q4 q5 (by simpa using hr);obtain rfl:=toL ak;rw[au] at hsub U V HP K hr;clear au;have z0:wr.cell? ⟨b,off+i*6,none⟩=some (.int .i64 q0):=by simpa[Rd.n] using hc 0 _ rfl
   replace hc:∀j v,_→wr.cell? ⟨b,off+i*6+j,none⟩=some v:=hc;have z1:=hc 1 _ rfl;have z2:=hc 2 _ rfl;have z3:=hc 3 _ rfl;have z4:=hc 4 _ rfl;have z5:=hc 5 _ rfl;have f0:wr.frozen? ⟨b,off+i*6,none⟩=false:=by simpa[Rd.n] using hz 0 (by decide)
   replace hz:∀j,j<6→wr.frozen? ⟨b,off+i*6+j,none⟩=false:=hz;have f1:=hz 1 (by decide);have f2:=hz 2 (by decide);have f3:=hz 3 (by decide);have f4:=hz 4 (by decide);have O:=blk z0;have m0:0<m:=by omega
   have em:(KH m (q0,q1,q2,q3,q4,q5)).2=(oq (m+1+1+1+1+1) q5).2:=rfl;rw[em] at bd;have lq:=DZ (m+1+1+1+1+1) q5;have m1:(oq (m+1+1+1+1+1) q5).2≤4398046511104:=by have h:=H1.o;have e:(kz k xs).2=(gK KH k xs).2:=rfl;omega
   have bg:=fun o o' (h:¬o'=o)=>cne b o o' h
   have fz:=fun(W:World) (o o':Nat) (v:Value)=>(eQ:(W.setCell ⟨b,o,none⟩ v).frozen? ⟨b,o',none⟩=W.frozen? ⟨b,o',none⟩)
   have gD:=Kz (eH (y:=m) (by omega) (by omega));have gF:=Kz (eH (y:=m+1) (by omega) (by omega));have gT:=Kz (eH (y:=m+1+1) (by omega) (by omega));have gV:=Kz (eH (y:=m+1+1+1) (by omega) (by omega));have gX:=Kz (fK (m+1+1+1+1) (by omega));have N0:(B).Nodup:=by simpa only[nil_append,append_nil] using V
   have M0:b∉B:=by simpa only[nil_append,append_nil] using U
   have ax:=N0;have ay:b∉B:=fun h=>M0 (by simp[h])
   have ik:=Kz X;obtain⟨Y,Z,rfl,-,-,-⟩:=X.open;have I:=Kz ay;have bq:=Kz ax;clear ay ax M0 N0 X;clear hc hz K aj g3 em hy hr ak dS dV fe fu gB;have bB:=Kz hsub;clear U V hsub;go_wp2_with fail;refine(dz (m+1+1+1+1) _ (by omega) (by omega)).mono ?_;rintro e w4 ⟨rfl,x4,rfl⟩;go_wp2_with fail;refine(A8 B _ q5 (m+1+1+1+1+1) _ ((SlR.wr ik.o (fp:=[b]) (by repeat(first|with_reducible refine Wr.setCell ?_ (by simp) _|with_reducible refine Wr.gr ?_ (Gr.ext (Gr.refl _) _)|exact Wr.refl _ _)) (by have:=I.o;intro c hc J;simp at J;subst J;exact this hc))) bq.o (by omega) (by show(oq (m+1+1+1+1+1) q5).2≤_;omega)).mono ?_;rintro e T ⟨rfl,t5,r5⟩;have T5:=Kz t5;have R5:=Kz r5;clear t5 r5;have F5:=Kz (Foc.inner (b:=b) (lo:=off+i*Rd.n aT) (n:=Rd.n aT) (fq:=([]++([]++([]++([]++([]++B)))))) (w:=wr) (by repeat(first|with_reducible refine Foc.set ?_ (by simp[Rd.n]<;>omega) (by simp[Rd.n]<;>omega) _|with_reducible refine Foc.gr ?_ O (Gr.ext (Gr.refl _) _)|exact Foc.refl _ _ _ _ _)) O R5.o (by intro c hc;simp[hc]) I.o);have ai:=T5;have e5:=R5.o.block b (Nat.lt_of_lt_of_le O (Foc.wr (b:=b) (lo:=off+i*Rd.n aT) (n:=Rd.n aT) (fq:=([]++([]++([]++([]++([]++B)))))) (w:=wr) (by repeat(first|with_reducible refine Foc.set ?_ (by simp[Rd.n]<;>omega) (by simp[Rd.n]<;>omega) _|with_reducible refine Foc.gr ?_ O (Gr.ext (Gr.refl _) _)|exact Foc.refl _ _ _ _ _))).size) I.o;have c5:=fun(o:Nat)=>World.cell?_of_block (a:=⟨b,o,none⟩) e5
   have bH:T.cell? ⟨b,off+i*6,none⟩=some (.int .i64 (m)):=(c5 _).trans (by go_simp);have bL:T.cell? ⟨b,off+i*6+1,none⟩=some (.int .i64 (m+1)):=(c5 _).trans (by go_simp);have bR:T.cell? ⟨b,off+i*6+2,none⟩=some (.int .i64 (m+1+1)):=(c5 _).trans (by go_simp);have bX:T.cell? ⟨b,off+i*6+3,none⟩=some (.int .i64 (m+1+1+1)):=(c5 _).trans (by go_simp);have cB:T.cell? ⟨b,off+i*6+4,none⟩=some (.string (mtx (m+1+1+1+1))):=(c5 _).trans (by go_simp);have cK:T.cell? ⟨b,off+i*6+5,none⟩=some (.slice Y q5.length Z):=(c5 _).trans (by go_simp);have s5:=R5.o.size;clear e5 c5 z0 z1 z2 z3 z4 z5;clear fz bg f0 f1 f2 f3 f4;go_wp2_with fail;refine⟨⟨i+1,(oq (m+1+1+1+1+1) q5).2,by omega,Kz ?_,?_,?_,by go_num,rfl⟩,by simp[intOf];omega⟩
   ·rw[dF KH k xs D,←hm.o,←HY.o];rfl
   ·rw[iA KH k xs D,←hm.o,←HY.o]
    refine HP.o _ [.int .i64 (m),.int .i64 (m+1),.int .i64 (m+1+1),.int .i64 (m+1+1+1),.string (mtx (m+1+1+1+1)),.slice Y q5.length Z] (KH m (q0,q1,q2,q3,q4,q5)).1 (by repeat(first|with_reducible refine Foc.set ?_ (by simp[Rd.n]<;>omega) (by simp[Rd.n]<;>omega) _|with_reducible refine Foc.gr ?_ O (Gr.ext (Gr.refl _) _)|exact F5.o)) (fun j v q=>?_) (tF (m) (m+1) (m+1+1) (m+1+1+1) (mtx (m+1+1+1+1)) ((oq (m+1+1+1+1+1) q5).1) gD.o gF.o gT.o gV.o gX.o (SlR.wr ai.o (fp:=[b]) (by repeat(first|with_reducible refine Wr.setCell ?_ (by simp) _|with_reducible refine Wr.gr ?_ (Gr.ext (Gr.refl _) _)|exact Wr.refl _ _)) (by have:=I.o;intro c hc J;simp at J;subst J;exact this hc)))
    have en:off+i*Rd.n aT=off+i*6:=rfl;rw[en]
    match j,q with
    |0,q=>obtain rfl:=Option.some.inj q;exact bH
    |1,q=>obtain rfl:=Option.some.inj q;exact bL
    |2,q=>obtain rfl:=Option.some.inj q;exact bR
    |3,q=>obtain rfl:=Option.some.inj q;exact bX
    |4,q=>obtain rfl:=Option.some.inj q;exact cB
    |5,q=>obtain rfl:=Option.some.inj q;exact cK
   ·exact HW.o.trans (Wr.sub (Foc.wr (b:=b) (lo:=off+i*Rd.n aT) (n:=Rd.n aT) (fq:=([]++([]++([]++([]++([]++B)))))) (by repeat(first|with_reducible refine Foc.set ?_ (by simp[Rd.n]<;>omega) (by simp[Rd.n]<;>omega) _|with_reducible refine Foc.gr ?_ O (Gr.ext (Gr.refl _) _)|exact F5.o))) (fun c hc=>by
     rcases List.mem_cons.1 hc with rfl|hc
     ·exact dB
     ·exact bB.o c hc))
  ·have iw:i=xs.length:=by omega
   subst iw;have ae:=HS.o;rw[jb] at ae;have ah:=hm.o;rw[take_length] at ah;have kr:=Kz ae;have ku:=Kz ah;clear ae ah HS hm
   go_wp2
   go_ret;exact⟨aC ku.o,kr.o,HW.o⟩
def yf(k:Int):fU→fU×Int
 |q0=>((kz (k) q0).1,(kz (k) q0).2)
theorem CQ(k:Int)(x:fU):k≤(yf k x).2∧(yf k x).2≤k+16*(1+gY x):=by
 obtain⟨q0,rfl⟩:=nm (x);have h:=Ab (k) q0;have hw:gY q0=(jG q0):=rfl;simp only[yf] at*;omega
theorem AZ(fp:List Nat)(cs:Array Value)(x:fU)(k:Int)(w:World)(I:Rd.rd fp w cs.toList x)(q:fp.Nodup)(h0:0<k)(h1:(yf k x).2≤4398046511104):
  Calls Tryz.prog 19 #[.agg cs,.int .i64 k] w fun e w'=>e=.returned (.int .i64 (yf k x).2)∧Rd.rd fp w' cs.toList (yf k x).1∧Wr fp w w':=by
 have B:=Rd.lt I;obtain⟨q0,rfl⟩:=nm (x);obtain⟨ae,h,rfl,J,D⟩:=bY q0 I;rw[J] at B q I ⊢;clear J;have m1:(kz (k) q0).2≤4398046511104:=h1;have T:(h).Nodup:=by simpa only[nil_append,append_nil] using q
 have Z:∀c∈(h),c<w.heap.size:=by simpa only[nil_append,append_nil] using B
 have K:=T;have O:=Kz K;have ah:=Dl (k) q0;have U:=Kz D;obtain⟨V,X,rfl,-,-,-⟩:=D.open;clear I B h1 q Z D K T;go_in;go_wp2_with fail;refine(yQ h _ q0 (k) _ (U.o.gr gd) O.o (by omega) (by show(kz (k) q0).2≤_;omega)).mono ?_;rintro e y0 ⟨rfl,t0,Y⟩;have T0:=Kz t0;have R0:=Kz Y;clear t0 Y;have W0:=Kz ((Gr.eF (by exact gd:Gr w (w.alloc (.cells #[.slice V q0.length X] 43))) (h)).trans (R0.o.sub (fun c hc=>by simp[hc])));go_wp2_with fail;go_ret;refine⟨rfl,?_,W0.o.sub (fun c hc=>by simpa using hc)⟩;have hl:=zU ((kz (k) q0).1) T0.o;exact hl
def um(k:Int):av→av×Int
 |(_,_)=>((k,mtx (k+1)),k+1+1)
theorem qV(k:Int)(x:av):k≤(um k x).2∧(um k x).2≤k+16*(1+fM x):=by
 obtain⟨q0,q1⟩:=x;have hw:fM (q0,q1)=(q1.size):=rfl;simp only[um] at*;omega
theorem j4(k:Int)(x:av):k≤(um k x).2:=(qV k x).1
def fw(k:Int)(x:List av):List av×Int:=gK um k x
theorem yo(k:Int)(x:List av):k≤(fw k x).2∧(fw k x).2≤k+16*kP x:=by
 have:=jN um fM qV x k;unfold fw kP;exact this
theorem qR(fp:List Nat)(u:Value)(xs:List av)(k:Int)(w:World)(hu:SlR fp w u xs)(ah:fp.Nodup)(h0:0<k)(h1:(fw k xs).2≤4398046511104):
  Calls Tryz.prog 20 #[u,.int .i64 k] w fun e w'=>e=.returned (.int .i64 (fw k xs).2)∧SlR fp w' u (fw k xs).1∧Wr fp w w':=by
 obtain⟨a,ca,rfl,g1,g2,g3⟩:=hu.open;have H1:=Kz h1;clear h1;go_in
 go_wp2
 go_loopw [5,1] (fun Y s1 wr=>∃(i:Nat) (m:Int),i≤xs.length∧Ky (m=(gK um k (xs.take i)).2)∧SlR fp wr (.slice a xs.length ca) (markT um k xs i)∧Wr fp w wr∧Y=.int .i64 i∧s1=.int .i64 m) (fun Y _ _=>xs.length - (intOf Y).toNat)
 case atStart=>exact⟨0,k,by omega,Kz (by simp[gK]),by rw[iE];exact hu,Wr.refl _ _,rfl,rfl⟩
 case round=>
  obtain⟨i,m,hi,hm,hs,hW,rfl,rfl⟩:=hrel;have Z:=Kz hs;have HW:=Kz hW;clear hs hW
  by_cases q:i<xs.length
  ·obtain⟨b,off,rfl,hb⟩:=g3 i q
   have ae:i<(markT um k xs i).length:=by rw[iJ];exact q
   obtain⟨cs,fq,hc,hr,hsub,ai,O,T,hz,B⟩:=Z.o.focus ah ae
   have HP:=Kz B;rw[kQ um k xs q] at hr;obtain⟨y,K⟩:=nm (xs[i]);rw[←K] at hr;have HY:=Kz K;have bd:=dG um j4 k xs (i+1);have U:=dG um j4 k xs i;rw[dF um k xs q,←hm.o,←K] at bd;rw[←hm.o] at U;obtain⟨q0,q1⟩:=y;obtain⟨V,X,aj,ak⟩:=bK (cs:=cs.toArray) q0 q1 (by simpa using hr);obtain rfl:=toL V;rw[X] at hsub O T HP B hr;clear X;have z0:wr.cell? ⟨b,off+i*2,none⟩=some (.int .i64 q0):=by simpa[Rd.n] using hc 0 _ rfl
   replace hc:∀j v,_→wr.cell? ⟨b,off+i*2+j,none⟩=some v:=hc;have z1:=hc 1 _ rfl;have f0:wr.frozen? ⟨b,off+i*2,none⟩=false:=by simpa[Rd.n] using hz 0 (by decide)
   replace hz:∀j,j<2→wr.frozen? ⟨b,off+i*2+j,none⟩=false:=hz;have f1:=hz 1 (by decide);have bl:=blk z0;have m0:0<m:=by omega
   have em:(um m (q0,q1)).2=m+1+1:=rfl;rw[em] at bd;have m1:m+1+1≤4398046511104:=by have h:=H1.o;have e:(fw k xs).2=(gK um k xs).2:=rfl;omega
   have bq:=fun o o' (h:¬o'=o)=>cne b o o' h
   have fz:=fun(W:World) (o o':Nat) (v:Value)=>(eQ:(W.setCell ⟨b,o,none⟩ v).frozen? ⟨b,o',none⟩=W.frozen? ⟨b,o',none⟩)
   have au:=Kz (eH (y:=m) (by omega) (by omega));have ax:=Kz (fK (m+1) (by omega));clear hc hz B U g3 em K hr V aj ak;clear O T hsub;go_wp2_with fail;refine(dz (m+1) _ (by omega) (by omega)).mono ?_;rintro e w1 ⟨rfl,x1,rfl⟩;go_wp2_with fail;refine⟨⟨i+1,m+1+1,by omega,Kz ?_,?_,?_,by go_num,rfl⟩,by simp[intOf];omega⟩
   ·rw[dF um k xs q,←hm.o,←HY.o];rfl
   ·rw[iA um k xs q,←hm.o,←HY.o]
    refine HP.o _ [.int .i64 (m),.string (mtx (m+1))] (um m (q0,q1)).1 (by repeat(first|with_reducible refine Foc.set ?_ (by simp[Rd.n]<;>omega) (by simp[Rd.n]<;>omega) _|with_reducible refine Foc.gr ?_ bl (Gr.ext (Gr.refl _) _)|exact Foc.refl _ _ _ _ _)) (fun j v D=>?_) (bZ (m) (mtx (m+1)) au.o ax.o)
    have en:off+i*Rd.n av=off+i*2:=rfl;rw[en]
    match j,D with
    |0,D=>obtain rfl:=Option.some.inj D;go_simp
    |1,D=>obtain rfl:=Option.some.inj D;go_simp
   ·repeat(first|with_reducible refine Wr.setCell ?_ ai _|with_reducible refine Wr.gr ?_ (Gr.ext (Gr.refl _) _)|exact HW.o)
  ·have ay:i=xs.length:=by omega
   subst ay;have I:=Z.o;rw[jb] at I;have J:=hm.o;rw[take_length] at J;have aZ:=Kz I;have bg:=Kz J;clear I J Z hm
   go_wp2
   go_ret;exact⟨aC bg.o,aZ.o,HW.o⟩
theorem mr(fp:List Nat)(u:Value)(xs:List av)(k:Int)(w:World)(hu:SlR fp w u (fw k xs).1)(h0:0<k)(h1:(fw k xs).2≤4398046511104):
  Qz 21 #[u,.int .i64 k] w (.int .i64 (fw k xs).2):=by
 obtain⟨a,ca,rfl,g1,g2,g3⟩:=hu.open;have H1:=Kz h1;clear h1;have I:(fw k xs).1.length=xs.length:=jT um xs k;rw[I] at g1 g2 g3 hu ⊢;clear I;delta Qz;go_in
 go_wp2
 go_loopw [5,1] (fun O s1 wr=>∃(i:Nat) (m:Int),i≤xs.length∧Ky (m=(gK um k (xs.take i)).2)∧Gr w wr∧O=.int .i64 i∧s1=.int .i64 m) (fun O _ _=>xs.length - (intOf O).toNat)
 case atStart=>exact⟨0,k,by omega,Kz (by simp[gK]),Gr.refl _,rfl,rfl⟩
 case round=>
  obtain⟨i,m,hi,hm,⟨x,rfl⟩,rfl,rfl⟩:=hrel
  by_cases q:i<xs.length
  ·have T:i<(gK um k xs).1.length:=by rw[jT];exact q
   obtain⟨b,off,rfl,hb⟩:=g3 i q;obtain⟨cs,fq,hc,hr,-⟩:=SlR.at (xs:=(gK um k xs).1) hu T;rw[H7 um k xs q,←hm.o] at hr;obtain⟨y,D⟩:=nm (xs[i]);rw[←D] at hr;have Y:=Kz D;have U:=dG um j4 k xs (i+1);have J:=dG um j4 k xs i;rw[dF um k xs q,←hm.o,←D] at U;rw[←hm.o] at J;obtain⟨q0,q1⟩:=y;obtain⟨K,-,-,-⟩:=bK (cs:=cs.toArray) (m) (mtx (m+1)) (by rw[List.toList_toArray];exact hr);obtain rfl:=toL K;have z0:w.cell? ⟨b,off+i*2,none⟩=some (.int .i64 (m)):=by simpa[Rd.n] using hc 0 _ rfl
   replace hc:∀j v,_→w.cell? ⟨b,off+i*2+j,none⟩=some v:=hc;have z1:=hc 1 _ rfl;have m0:0<m:=by omega
   have em:(um m (q0,q1)).2=m+1+1:=rfl;rw[em] at U;have m1:m+1+1≤4398046511104:=by have h:=H1.o;have e:(fw k xs).2=(gK um k xs).2:=rfl;omega
   clear hc U J g3 em D hr K;go_wp2_with fail;refine wg ?_
   repeat(go_big_quiet_step ((go_at_call 52;exact aG (dz (m+1) _ (by omega) (by omega)))))
   refine wq fun Z=>?_
   go_wp2_with fail;refine⟨⟨i+1,m+1+1,by omega,Kz ?_,gd,by go_num,rfl⟩,by simp[intOf];omega⟩;rw[dF um k xs q,←hm.o,←Y.o];rfl
  ·have V:i=xs.length:=by omega
   subst V;have B:=hm.o;rw[take_length] at B;have X:=Kz B;clear B hm
   go_wp2
   go_ret;exact⟨aC X.o,gd⟩
end Go.Proofs.YtleafadpfeibfaaGreat
