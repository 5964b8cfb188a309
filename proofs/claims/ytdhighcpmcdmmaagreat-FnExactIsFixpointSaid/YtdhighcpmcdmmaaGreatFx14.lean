/- Contracts and laws towards ReadsOf, part 13 of 54. No condition. -/
import Derived.Test.YtdhighcpmcdmmaaGreatFx11
import Derived.Sort.Statements
import Derived.Laws.Cover1
set_option maxHeartbeats 32000000
set_option maxRecDepth 10000
set_option linter.unusedVariables false
set_option linter.unusedSimpArgs false
namespace Go.Proofs.YtdhighcpmcdmmaaGreat
open Go.RowKit
open _root_.List (mem_append)
open _root_.Option (getD_some)
variable{d:Nat}
variable{fx ft:List Nat}{cx ct:Array Value}
theorem dY(x:(af d))(n:ByteArray)(w:World)(hx:Rd.rd fx w cx.toList x):
  Calls Tryz.prog 94 #[.agg cx,.string n] w (Found fx w (bW x.1 n) dE):=by
 obtain⟨q,x1,ah,ai,cK,aj,au,cO,rfl,rfl,ax,U,bq,bB,dz,bD,bH⟩:=yt hx;have Y:=U.op3;clear hx;go_in;go_wp2_with fail
 go_loopw [11,7] (fun I s7 wr=>∃k:Nat,k≤q.length∧Ky (∀j (h:j<q.length),j<k→decide (q[j].1=n)=false)∧Gr ((w.alloc (.cells #[.slice ah q.length ai,.slice aj x1.length au] 36)).alloc (.cells #[.string ByteArray.empty,.slice none 0 0] 104)) wr∧I=.int .i64 k) (fun I _ _=>q.length - (intOf I).toNat)
 case atStart=>exact⟨0,by omega,Kz (by omega),Gr.refl _,rfl⟩
 case round=>
  obtain⟨k,hk,Z,⟨y,rfl⟩,rfl⟩:=hrel
  by_cases D:k<q.length
  ·have bK:=D
   obtain⟨b,off,rfl,dA⟩:=Y k D;obtain⟨ay,aL,B,H,X⟩:=U.at D;obtain⟨yq,J⟩:=nm (q[k]);rw[←J] at H;have K:=Kz J;have aN:=Kz H;obtain⟨q0,q1⟩:=yq;obtain⟨dC,dG,O,-,dL,aS⟩:=dB (cs:=ay.toArray) q0 q1 (by simpa using H);obtain rfl:=toL O;obtain⟨aV,aZ,rfl,bL,bN,bV⟩:=aS.open;have dU:w.cell? ⟨b,off+k*2,none⟩=some (.string q0):=by simpa[Rd.n] using B 0 _ rfl
   replace B:∀j v,_→w.cell? ⟨b,off+k*2+j,none⟩=some v:=B;have dW:=B 1 _ rfl;clear O B H J;have bg:=Kz X;clear X
   by_cases s:q0=n
   ·skip
    obtain rfl:=s;have hl:bW q q0=some q[k]:=FX D (by rw[←K.o];simp) Z.o;have T:=Kz hl;clear hl;go_wp2_with fail
    exact bodyPost_ret (v:=.tuple #[.agg #[.string q0,.slice aV q1.length aZ],.bool true])
     (by simp[results,Tryz.results94,go_sem]) rfl ⟨_,aL,by rw[T.o];rfl,by rw[T.o,getD_some,←K.o];exact Rd.gr aN.o gd,fun c hc=>.inl (by rw[ax.o];simp only[mem_append];have:=bg.o c hc;simp[this]),gd⟩
   ·have E:=Kz s
    have e:(q0.toList==n.toList)=false:=by simpa using fun e=>s (str_inj e)
    clear s;go_wp2_with fail;refine⟨⟨k+1,by omega,Kz fun j hj eH=>?_,gd,by go_num⟩,by simp[intOf];omega⟩
    by_cases ae:j<k
    ·exact Z.o j hj ae
    ·obtain rfl:j=k:=by omega
     rw[←K.o];exact decide_eq_false E.o
  ·have hn:bW q n=none:=jU fun j hj=>Z.o j hj (by omega)
   have T:=Kz hn;clear hn;go_wp2_with fail
   exact bodyPost_ret (v:=.tuple #[.agg #[.string ⟨#[]⟩,.slice none 0 0],.bool false])
    (by simp[results,Tryz.results94,go_sem]) rfl ⟨_,_,by rw[T.o];rfl,by rw[T.o];exact CR _,by simp,gd⟩
theorem iL(x:(af d))(n:ByteArray)(w:World)(hx:Rd.rd fx w cx.toList x):
  Calls Tryz.prog 164 #[.agg cx,.string n] w (Found fx w (dJ x.2 n) fH):=by
 obtain⟨x0,s,ah,ai,fw,aj,au,fA,rfl,rfl,ax,fK,bN,bV,U,cK,cO⟩:=yt hx;have Y:=U.op3;clear hx;go_in;go_wp2_with fail
 go_loopw [11,7] (fun I s7 wr=>∃k:Nat,k≤s.length∧Ky (∀j (h:j<s.length),j<k→decide (s[j].1=n)=false)∧Gr ((w.alloc (.cells #[.slice ah x0.length ai,.slice aj s.length au] 36)).alloc (.cells #[.string ByteArray.empty,.string ByteArray.empty,.slice none 0 0,.bool false,.slice none 0 0,.slice none 0 0] 112)) wr∧I=.int .i64 k) (fun I _ _=>s.length - (intOf I).toNat)
 case atStart=>exact⟨0,by omega,Kz (by omega),Gr.refl _,rfl⟩
 case round=>
  obtain⟨k,hk,Z,⟨y,rfl⟩,rfl⟩:=hrel
  by_cases D:k<s.length
  ·have dz:=D
   obtain⟨b,off,rfl,gm⟩:=Y k D;obtain⟨ay,aL,q,H,X⟩:=U.at D;obtain⟨yq,J⟩:=nm (s[k]);rw[←J] at H;have K:=Kz J;have aN:=Kz H;obtain⟨q0,q1,q2,q3,q4,q5⟩:=yq;obtain⟨gB,gD,gF,gH,gM,gT,O,-,ik,iw,aS,aV,aZ⟩:=aM (cs:=ay.toArray) q0 q1 q2 q3 q4 q5 (by simpa using H);obtain rfl:=toL O;obtain⟨bg,bq,rfl,dA,dC,dG⟩:=aS.open;obtain⟨bB,bD,rfl,dL,dU,dW⟩:=aV.open;obtain⟨bH,bK,rfl,eH,fe,fu⟩:=aZ.open;have jN:w.cell? ⟨b,off+k*6,none⟩=some (.string q0):=by simpa[Rd.n] using q 0 _ rfl
   replace q:∀j v,_→w.cell? ⟨b,off+k*6+j,none⟩=some v:=q;have jX:=q 1 _ rfl;have j4:=q 2 _ rfl;have j5:=q 3 _ rfl;have ku:=q 4 _ rfl;have ky:=q 5 _ rfl;clear O q H J;have bL:=Kz X;clear X
   by_cases B:q0=n
   ·skip
    obtain rfl:=B;have hl:dJ s q0=some s[k]:=FX D (by rw[←K.o];simp) Z.o;have T:=Kz hl;clear hl;go_wp2_with fail
    exact bodyPost_ret (v:=.tuple #[.agg #[.string q0,.string q1,.slice bg q2.length bq,.bool q3,.slice bB q4.length bD,.slice bH q5.length bK],.bool true])
     (by simp[results,Tryz.results164,go_sem]) rfl ⟨_,aL,by rw[T.o];rfl,by rw[T.o,getD_some,←K.o];exact Rd.gr aN.o gd,fun c hc=>.inl (by rw[ax.o];simp only[mem_append];have:=bL.o c hc;simp[this]),gd⟩
   ·have E:=Kz B
    have e:(q0.toList==n.toList)=false:=by simpa using fun e=>B (str_inj e)
    clear B;go_wp2_with fail;refine⟨⟨k+1,by omega,Kz fun j hj kz=>?_,gd,by go_num⟩,by simp[intOf];omega⟩
    by_cases ae:j<k
    ·exact Z.o j hj ae
    ·obtain rfl:j=k:=by omega
     rw[←K.o];exact decide_eq_false E.o
  ·have hn:dJ s n=none:=jU fun j hj=>Z.o j hj (by omega)
   have T:=Kz hn;clear hn;go_wp2_with fail
   exact bodyPost_ret (v:=.tuple #[.agg #[.string ⟨#[]⟩,.string ⟨#[]⟩,.slice none 0 0,.bool false,.slice none 0 0,.slice none 0 0],.bool false])
    (by simp[results,Tryz.results164,go_sem]) rfl ⟨_,_,by rw[T.o];rfl,by rw[T.o];exact CE _,by simp,gd⟩
theorem jA(x:bC)(n:ByteArray)(w:World)(hx:Rd.rd fx w cx.toList x):
  Calls Tryz.prog 109 #[.agg cx,.string n] w (Found fx w (ek x.2 n) dR):=by
 obtain⟨x0,s,ah,ai,aZ,rfl,rfl,aj,bg,U,aN,aS⟩:=Lg hx;have Y:=U.op3;clear hx;go_in;go_wp2_with fail
 go_loopw [11,7] (fun I s7 wr=>∃k:Nat,k≤s.length∧Ky (∀j (h:j<s.length),j<k→decide (s[j].1=n)=false)∧Gr ((w.alloc (.cells #[.string x0,.slice ah s.length ai] 104)).alloc (.cells #[.string ByteArray.empty,.int .i64 0,.int .i64 0,.bool false] 81)) wr∧I=.int .i64 k) (fun I _ _=>s.length - (intOf I).toNat)
 case atStart=>exact⟨0,by omega,Kz (by omega),Gr.refl _,rfl⟩
 case round=>
  obtain⟨k,hk,Z,⟨y,rfl⟩,rfl⟩:=hrel
  by_cases D:k<s.length
  ·have aV:=D
   obtain⟨b,off,rfl,bq⟩:=Y k D;obtain⟨au,ax,q,H,X⟩:=U.at D;obtain⟨yq,J⟩:=nm (s[k]);rw[←J] at H;have K:=Kz J;have ay:=Kz H;obtain⟨q0,q1,q2,q3⟩:=yq;obtain⟨O,-,bB,bD,bH⟩:=aR (cs:=au.toArray) q0 q1 q2 q3 (by simpa using H);obtain rfl:=toL O;have bK:w.cell? ⟨b,off+k*4,none⟩=some (.string q0):=by simpa[Rd.n] using q 0 _ rfl
   replace q:∀j v,_→w.cell? ⟨b,off+k*4+j,none⟩=some v:=q;have bL:=q 1 _ rfl;have bN:=q 2 _ rfl;have bV:=q 3 _ rfl;clear O q H J;have aL:=Kz X;clear X
   by_cases B:q0=n
   ·skip
    obtain rfl:=B;have hl:ek s q0=some s[k]:=FX D (by rw[←K.o];simp) Z.o;have T:=Kz hl;clear hl;go_wp2_with fail
    exact bodyPost_ret (v:=.tuple #[.agg #[.string q0,.int .i64 q1,.int .i64 q2,.bool q3],.bool true])
     (by simp[results,Tryz.results109,go_sem]) rfl ⟨_,ax,by rw[T.o];rfl,by rw[T.o,getD_some,←K.o];exact Rd.gr ay.o gd,fun c hc=>.inl (by rw[aj.o];simp only[mem_append];have:=aL.o c hc;simp[this]),gd⟩
   ·have E:=Kz B
    have e:(q0.toList==n.toList)=false:=by simpa using fun e=>B (str_inj e)
    clear B;go_wp2_with fail;refine⟨⟨k+1,by omega,Kz fun j hj cK=>?_,gd,by go_num⟩,by simp[intOf];omega⟩
    by_cases ae:j<k
    ·exact Z.o j hj ae
    ·obtain rfl:j=k:=by omega
     rw[←K.o];exact decide_eq_false E.o
  ·have hn:ek s n=none:=jU fun j hj=>Z.o j hj (by omega)
   have T:=Kz hn;clear hn;go_wp2_with fail
   exact bodyPost_ret (v:=.tuple #[.agg #[.string ⟨#[]⟩,.int .i64 0,.int .i64 0,.bool false],.bool false])
    (by simp[results,Tryz.results109,go_sem]) rfl ⟨_,_,by rw[T.o];rfl,by rw[T.o];exact oD _,by simp,gd⟩
theorem jC(x:bC)(n:ByteArray)(w:World)(hx:Rd.rd fx w cx.toList x):
  Calls Tryz.prog 159 #[.agg cx,.string n] w (Found fx w (ek x.2 n) dR):=by
 obtain⟨x0,s,ah,ai,aZ,rfl,rfl,aj,bg,T,aN,aS⟩:=Lg hx;have X:=T.op3;clear hx;go_in;go_wp2_with fail
 go_loopw [6] (fun Y wr=>∃k:Nat,k≤s.length∧Ky (∀j (h:j<s.length),j<k→decide (s[j].1=n)=false)∧Gr ((w.alloc (.cells #[.string x0,.slice ah s.length ai] 104)).alloc (.cells #[.string ByteArray.empty,.int .i64 0,.int .i64 0,.bool false] 81)) wr∧Y=.int .i64 k) (fun Y _=>s.length - (intOf Y).toNat)
 case atStart=>exact⟨0,by omega,Kz (by omega),Gr.refl _,rfl⟩
 case round=>
  obtain⟨k,hk,Z,⟨y,rfl⟩,rfl⟩:=hrel
  by_cases D:k<s.length
  ·have aV:=D
   obtain⟨b,off,rfl,bq⟩:=X k D;obtain⟨au,ax,q,H,U⟩:=T.at D;obtain⟨yq,I⟩:=nm (s[k]);rw[←I] at H;have J:=Kz I;have ay:=Kz H;obtain⟨q0,q1,q2,q3⟩:=yq;obtain⟨K,-,bB,bD,bH⟩:=aR (cs:=au.toArray) q0 q1 q2 q3 (by simpa using H);obtain rfl:=toL K;have bK:w.cell? ⟨b,off+k*4,none⟩=some (.string q0):=by simpa[Rd.n] using q 0 _ rfl
   replace q:∀j v,_→w.cell? ⟨b,off+k*4+j,none⟩=some v:=q;have bL:=q 1 _ rfl;have bN:=q 2 _ rfl;have bV:=q 3 _ rfl;clear K q H I;have aL:=Kz U;clear U
   by_cases B:q0=n
   ·skip
    obtain rfl:=B;have hl:ek s q0=some s[k]:=FX D (by rw[←J.o];simp) Z.o;have O:=Kz hl;clear hl;go_wp2_with fail
    exact bodyPost_ret (v:=.tuple #[.agg #[.string q0,.int .i64 q1,.int .i64 q2,.bool q3],.bool true])
     (by simp[results,Tryz.results159,go_sem]) rfl ⟨_,ax,by rw[O.o];rfl,by rw[O.o,getD_some,←J.o];exact Rd.gr ay.o gd,fun c hc=>.inl (by rw[aj.o];simp only[mem_append];have:=aL.o c hc;simp[this]),gd⟩
   ·have E:=Kz B
    have e:(q0.toList==n.toList)=false:=by simpa using fun e=>B (str_inj e)
    clear B;go_wp2_with fail;refine⟨⟨k+1,by omega,Kz fun j hj cK=>?_,gd,by go_num⟩,by simp[intOf];omega⟩
    by_cases ae:j<k
    ·exact Z.o j hj ae
    ·obtain rfl:j=k:=by omega
     rw[←J.o];exact decide_eq_false E.o
  ·have hn:ek s n=none:=jU fun j hj=>Z.o j hj (by omega)
   have O:=Kz hn;clear hn;go_wp2_with fail
   exact bodyPost_ret (v:=.tuple #[.agg #[.string ⟨#[]⟩,.int .i64 0,.int .i64 0,.bool false],.bool false])
    (by simp[results,Tryz.results159,go_sem]) rfl ⟨_,_,by rw[O.o];rfl,by rw[O.o];exact oD _,by simp,gd⟩
theorem iI(x:fU)(n:Int)(w:World)(hx:Rd.rd fx w cx.toList x):
  Qz 126 #[.agg cx,.int .i64 n] w (.int .i64 (dQ x n)):=by
 obtain⟨s,ah,ai,bg,rfl,rfl,-,K,ay,aL⟩:=K8 hx;have T:=K.op3;clear hx;delta Qz;go_in;go_wp2_with fail
 go_loopw [5] (fun U wr=>∃k:Nat,k≤s.length∧Ky (∀j (h:j<s.length),j<k→decide (s[j].1=n)=false)∧Gr (w.alloc (.cells #[.slice ah s.length ai] 40)) wr∧U=.int .i64 k) (fun U _=>s.length - (intOf U).toNat)
 case atStart=>exact⟨0,by omega,Kz (by omega),Gr.refl _,rfl⟩
 case round=>
  obtain⟨k,hk,X,⟨y,rfl⟩,rfl⟩:=hrel
  by_cases B:k<s.length
  ·have aN:=B
   obtain⟨b,off,rfl,bq⟩:=T k B;obtain⟨aj,bB,q,D,au⟩:=K.at B;obtain⟨yq,H⟩:=nm (s[k]);rw[←H] at D;have O:=Kz H;obtain⟨q0,q1,q2,q3,q4,q5⟩:=yq;obtain⟨bD,bH,I,-,bK,bL,bN,bV,cK,ax⟩:=bA (cs:=aj.toArray) q0 q1 q2 q3 q4 q5 (by simpa using D);obtain rfl:=toL I;obtain⟨cO,dz,rfl,aS,aV,aZ⟩:=ax.open;have dA:w.cell? ⟨b,off+k*6,none⟩=some (.int .i64 q0):=by simpa[Rd.n] using q 0 _ rfl
   replace q:∀j v,_→w.cell? ⟨b,off+k*6+j,none⟩=some v:=q;have dC:=q 1 _ rfl;have dG:=q 2 _ rfl;have dL:=q 3 _ rfl;have dU:=q 4 _ rfl;have dW:=q 5 _ rfl;clear I q D H;clear au
   by_cases J:q0=n
   ·skip
    obtain rfl:=J;have hl:dQ s q0=(k:Int):=iH B (by rw[←O.o];simp) X.o;have Y:=Kz hl;clear hl;go_wp2_with fail;go_ret;exact⟨aC Y.o.symm,gd⟩
   ·have E:=Kz J
    go_wp2_with fail;refine⟨⟨k+1,by omega,Kz fun j Z eH=>?_,gd,by go_num⟩,by simp[intOf];omega⟩
    by_cases ae:j<k
    ·exact X.o j Z ae
    ·obtain rfl:j=k:=by omega
     rw[←O.o];exact decide_eq_false E.o
  ·have hn:dQ s n= -1:=gu fun j Z=>X.o j Z (by omega)
   have Y:=Kz hn;clear hn;go_wp2_with fail;go_ret;exact⟨aC Y.o.symm,gd⟩
theorem E8{a b:ByteArray}(h:a=b):Ending.returned (.string a)=Ending.returned (.string b):=by rw[h]
theorem xU(t:fU)(i:Int)(w:World)(h:Rd.rd ft w ct.toList t):
  Qz 163 #[.agg ct,.int .i64 i] w (.bool (decide (0≤i)&&decide (i≤(t.length:Int) - 1))):=by
 obtain⟨t0,B,D,E,rfl,rfl,-,H,q,s⟩:=K8 h;clear h;delta Qz;go_in;go_wp2_with fail;refine(di _ _ _ _).mono ?_;rintro e w' ⟨rfl,rfl⟩;go_wp2_with fail;go_ret;exact⟨rfl,gd⟩
theorem gQ(t:List aT)(i:Int)(w:World)(q:Rd.rd ft w ct.toList t)(h:0≤i)(s:i≤(t.length:Int) - 1):
  Qz 163 #[.agg ct,.int .i64 i] w (.bool true):=
 (xU t i w q).mono fun e w' ⟨he,hw⟩=>⟨by rw[he,decide_eq_true h,decide_eq_true s];rfl,hw⟩
theorem lH(t:List aT)(i:Int)(w:World)(q:Rd.rd ft w ct.toList t)(h:i<0∨(t.length:Int) - 1<i):
  Qz 163 #[.agg ct,.int .i64 i] w (.bool false):=
 (xU t i w q).mono fun e w' ⟨he,hw⟩=>⟨by rw[he,Bool.and_eq_false_iff.2 (h.imp (fun h=>decide_eq_false (by omega)) (fun h=>decide_eq_false (by omega)))],hw⟩
theorem BG{fp:List Nat}{cs:Array Value}(x:aT)(id:Int)(b:Nat)(w:World)(h:Rd.rd fp w cs.toList x)(hc:w.cell? ⟨b,0,none⟩=some (.int .i64 id)):
  Qz 178 #[.agg cs,.pointer (some ⟨b,0,none⟩)] w (.bool (decide (x.1=id))):=by
 have s:=blk hc;obtain⟨q0,q1,q2,q3,q4,q5,a5,B,f5,rfl,rfl,-,-,-,-,-,-,q,-,-⟩:=Lr h;clear h q;delta Qz;go_in;go_wp2_with fail;go_ret;exact⟨aa (by simp[BEq.beq]),gd⟩
theorem ji(t:fU)(i:Int)(w:World)(h:Rd.rd ft w ct.toList t):
  Qz 108 #[.agg ct,.int .i64 i] w (.int .i64 (dQ t i)):=by
 obtain⟨t0,q,s,K,rfl,rfl,-,B,H,I⟩:=K8 h;clear h
 have D:TestNode ((w.alloc (.cells #[.slice q t0.length s] 40)).alloc (.cells #[.int .i64 i] 3)) 178 #[.pointer (some ⟨w.heap.size+1,0,none⟩)] (fun n=>decide (n.1=i)) t0:=
  ⟨Tryz.call178,fun y _ x fp cs J=>BG y i (w.heap.size+1) _ J (Gr.keep (Gr.ext (Gr.refl _) x) (aJ (by simp) rfl))⟩
 have E:=Kz D;clear D;delta Qz;go_in;go_wp2_with fail;refine(l9 _ _ t0 _ _ _ _ (B.gr gd) E.o).mono ?_;rintro e w' ⟨rfl,O,rfl⟩;go_wp2_with fail;go_ret;exact⟨rfl,gd⟩
theorem jM{fg:List Nat}{cg:Array Value}(g:(af d))(t:fU)(i:Int)(w:World)(D:Rd.rd fg w cg.toList g)(ht:Rd.rd ft w ct.toList t):
  Qz 93 #[.agg cg,.agg ct,.int .i64 i] w (.string (zB g t i)):=by
 have HG:=Kz D;obtain⟨s,h,T,U,bN,X,Y,bV,rfl,rfl,-,cK,ax,ay,cO,aL,aN⟩:=yt D;clear D;have HT:=Kz ht;obtain⟨t0,dz,Z,dA,rfl,rfl,-,ae,aS,aV⟩:=K8 ht;have ah:=ae.op3;clear ht
 by_cases E:0≤i∧i≤(t0.length:Int) - 1
 ·obtain⟨n,rfl⟩:∃n:Nat,i=n:=⟨i.toNat,by omega⟩
  have H:n<t0.length:=by omega
  have HI:=Kz E;have I:zB (s,h) t0 (n:Int)=leftOf (s,h) t0[n]:=by unfold zB;rw[gG H]
  have HS:=Kz I;clear E I;obtain⟨b,off,rfl,q⟩:=ah n H;obtain⟨q0,q1,q2,q3,q4,q5,dC,dG,dL,dU,ai,dW,eH,fe,fu,fw,fA,fK,aZ,bg,gm,gD,gF,gH,aj,gM,gT⟩:=KZ ae H (Gr.refl _);have i0:(0:Int)≤(n:Int):=by omega
  have i1:(n:Int)<(t0.length:Int):=by omega
  delta Qz;go_in;go_wp2_with fail;refine(gQ t0 _ _ (Rd.gr HT.o gd) HI.o.1 HI.o.2).mono ?_;rintro e w' ⟨rfl,x1,rfl⟩;go_wp2_with fail;generalize J:(((w.alloc (.cells #[.slice T s.length U,.slice X h.length Y] 36)).alloc (.cells #[.slice (some ⟨b,off,none⟩) t0.length Z] 40)).ext x1)=B;have gB:Gr w B:=gb J;obtain⟨ik,iw⟩:=kb2 J (w.heap.size) (.slice T s.length U) (.slice X h.length Y);have jN:=kb J (w.heap.size+1) 0 (.slice (some ⟨b,off,none⟩) t0.length Z);have sB:B.heap.size=w.heap.size+2+x1.objs.size:=szB J;clear J;have kq:=fun(w':World) (D:Gr B w')=>(gB.trans D).keep aj
  go_region_held3 (fun w'=>Gr B w') (exact ga)
   (first|(go_at_call 164;refine(iL (s,h) q4 _ (Rd.gr HG.o (gB.trans ga))).mono ?_;rintro e w' ⟨es,fq,rfl,hr,-,x2,rfl⟩;obtain⟨r0,r1,r2,r3,r4,r5,jX,j4,j5,ku,ky,kz,kE,kL,kQ,K,rfl,-,kS,kT,kV,bq,bB,kX,bD,bH,kZ,bK,bL⟩:=KV (x:=(dJ h q4).getD fH) hr;have au:=Kz K;have lq:=Lt K hr;clear hr K;obtain⟨bb,q⟩:∃b:Bool,b=(dJ h q4).isSome:=⟨_,rfl⟩;rw[←q];have lG:=Kz q;clear q))
  all_goals
   go_wp2_with fail;go_ret;exact⟨E8 (by rw[HS.o,←ai.o];unfold leftOf;rw[←au.o]),gB.trans gd⟩
 ·have O:i<0∨(t0.length:Int) - 1<i:=by omega
  have HO:=Kz O;have I:zB (s,h) t0 i=ByteArray.empty:=by unfold zB;rw[jY O]
  have HS:=Kz I;clear E O I;delta Qz;go_in;go_wp2_with fail;refine(lH t0 _ _ (Rd.gr HT.o gd) HO.o).mono ?_;rintro e w' ⟨rfl,x1,rfl⟩;go_wp2_with fail;go_ret;exact⟨by rw[HS.o];rfl,gd⟩
theorem A9(x:Int)(w:World):Calls Tryz.prog 306 #[.int .i64 x] w fun e w'=>e=.returned (.bool false)∧w'=w:=by
 go_in;go_wp2_with fail;go_ret;exact⟨by simp,rfl⟩
theorem Bj(x:ByteArray)(w:World):Calls Tryz.prog 307 #[.string x] w fun e w'=>e=.returned (.bool false)∧w'=w:=by
 go_in;go_wp2_with fail;go_ret;exact⟨by simp,rfl⟩
def sM(x y:Int):Int:=if x<y then -1 else if y<x then 1 else 0
theorem xO(x y:Int)(w:World):Calls Tryz.prog 258 #[.int .i64 x,.int .i64 y] w fun e w'=>e=.returned (.int .i64 (sM x y))∧w'=w:=by
 go_in
 go_wp2_with (go_at_call 306;refine(A9 _ _).mono ?_;rintro e w' ⟨rfl,hw⟩;rw[hw])
 all_goals(go_ret;refine⟨?_,rfl⟩;unfold sM;(repeat' split)<;>first|rfl|(exfalso;omega))
def tN(x y:ByteArray):Int:=if Op.bytesLess x.toList y.toList=true then -1 else if (!(Op.bytesLess x.toList y.toList||x.toList==y.toList))=true then 1 else 0
theorem xN(x y:ByteArray)(w:World):Calls Tryz.prog 259 #[.string x,.string y] w fun e w'=>e=.returned (.int .i64 (tN x y))∧w'=w:=by
 go_in
 go_wp2_with (go_at_call 307;refine(Bj _ _).mono ?_;rintro e w' ⟨rfl,hw⟩;rw[hw])
 all_goals(go_ret;refine⟨?_,rfl⟩;unfold tN;simp[*])
def wJ(x y:Int):Int:=if x≠0 then x else y
theorem FN(x y:Int)(g c:Nat)(w:World)(D:w.cell? ⟨g,0,none⟩=some (.int .i64 x))(H:w.cell? ⟨g,1,none⟩=some (.int .i64 y)):Calls Tryz.prog 257 #[.slice (some ⟨g,0,none⟩) 2 c] w fun e w'=>e=.returned (.int .i64 (wJ x y))∧w'=w:=by
 have I:=blk D;go_in;go_wp2_with fail
 by_cases B:x=0
 ·by_cases E:y=0
  ·go_loopw [8,5] (fun h q wr=>∃k:Nat,k≤2∧wr=w∧h=.int .i64 k) (fun h q _=>2 - (intOf h).toNat)
   case atStart=>exact⟨0,by omega,rfl,rfl⟩
   case round=>
    obtain⟨k,s,rfl,rfl⟩:=hrel
    match k,s with
    |0,_=>
     go_wp2_with fail;exact⟨⟨1,by omega,by simp,by go_num⟩,by simp[intOf]⟩
    |1,_=>
     go_wp2_with fail;exact⟨⟨2,by omega,by simp,by go_num⟩,by simp[intOf]⟩
    |2,_=>
     go_wp2_with fail;go_ret;exact⟨aC (by unfold wJ;simp[B,E]),rfl⟩
  ·go_loopw [8,5] (fun h q wr=>∃k:Nat,k≤1∧wr=w∧h=.int .i64 k) (fun h q _=>2 - (intOf h).toNat)
   case atStart=>exact⟨0,by omega,rfl,rfl⟩
   case round=>
    obtain⟨k,s,rfl,rfl⟩:=hrel
    match k,s with
    |0,_=>
     go_wp2_with fail;exact⟨⟨1,by omega,by simp,by go_num⟩,by simp[intOf]⟩
    |1,_=>
     go_wp2_with fail;go_ret;exact⟨aC (by unfold wJ;simp[B]),rfl⟩
 ·go_loopw [8,5] (fun h q wr=>∃k:Nat,k≤0∧wr=w∧h=.int .i64 k) (fun h q _=>2 - (intOf h).toNat)
  case atStart=>exact⟨0,by omega,rfl,rfl⟩
  case round=>
   obtain⟨k,s,rfl,rfl⟩:=hrel;obtain rfl:k=0:=by omega
   go_wp2_with fail;go_ret;exact⟨aC (by unfold wJ;simp[B]),rfl⟩
def sI(x y:ag):Int:=wJ (sM x.1 y.1) (tN x.2 y.2)
theorem xh(x y:ag)(w:World):Qz 220 #[.agg #[.int .i64 x.1,.string x.2],.agg #[.int .i64 y.1,.string y.2]] w (.int .i64 (sI x y)):=by
 obtain⟨q,s⟩:=x;obtain⟨D,E⟩:=y
 show Qz 220 #[.agg #[.int .i64 q,.string s],.agg #[.int .i64 D,.string E]] w (.int .i64 (wJ (sM q D) (tN s E)))
 obtain⟨A,I⟩:=nm (sM q D);obtain⟨C,J⟩:=nm (tN s E);have O:=Kz (show∀W,Calls Tryz.prog 258 #[.int .i64 q,.int .i64 D] W fun e w'=>e=.returned (.int .i64 A)∧w'=W from fun W=>by rw[I];exact xO q D W);have T:=Kz (show∀W,Calls Tryz.prog 259 #[.string s,.string E] W fun e w'=>e=.returned (.int .i64 C)∧w'=W from fun W=>by rw[J];exact xN s E W);rw[←I,←J];clear I J;delta Qz;go_in;go_wp2_with fail;generalize H:((w.alloc (.cells #[.int .i64 q,.string s] 132)).alloc (.cells #[.int .i64 D,.string E] 132))=B;have U:Gr w B:=gb H;obtain⟨X,Y⟩:=kb2 H (w.heap.size) (.int .i64 q) (.string s);obtain⟨Z,ae⟩:=kb2 H (w.heap.size+1) (.int .i64 D) (.string E);have sB:B.heap.size=w.heap.size+2:=szB H;clear H;refine eB (fun w'=>Gr B w') 12 (by kernel_rfl) (Gr.drew (Gr.refl _)) (fun hU=>?_);refine bR 0 ?_;refine bR 2 ?_;refine bR 5 ?_;refine bR 7 ?_;refine bR 1 ?_;refine bR 3 ?_;refine bR 6 ?_;refine bR 8 ?_;refine dw [4] ?_;refine(bf.cons rfl (fun K h=>?_) bf.nil);go_simp
 go_at_call 258
 refine(O.o _).mono ?_;rintro e w5 ⟨rfl,rfl⟩;refine h.out _ _ gd (fun ah=>?_);clear h K
 try simp only[Act.put,uq1,uq2,uq3]
 refine dw [9] ?_
 refine(bf.cons rfl (fun K h=>?_) bf.nil);go_simp
 go_at_call 259
 refine(T.o _).mono ?_;rintro e w6 ⟨rfl,rfl⟩;refine h.out _ _ gd (fun ai=>?_);clear h K
 try simp only[Act.put,uq1,uq2,uq3]
 refine dw [10] ?_
 refine(bf.cons rfl (fun K h=>?_) bf.nil);go_simp;refine h.out _ _ gd (fun aj=>?_);clear h K
 try simp only[Act.put,uq1,uq2,uq3]
 refine dw [11] ?_
 refine(bf.cons rfl (fun K h=>?_) bf.nil);go_simp
 go_at_call 257
 refine(FN A C _ _ _ ?_ ?_).mono ?_
 ·exact Gr.keep (Gr.drew (Gr.refl _)) (aJ (by omega) rfl)
 ·exact Gr.keep (Gr.drew (Gr.refl _)) (aJ (by omega) rfl)
 rintro e w7 ⟨rfl,rfl⟩;refine h.out _ _ gd (fun au=>?_);clear h K
 try simp only[Act.put,uq1,uq2,uq3]
 refine dw [12] ?_
 refine bf.last rfl (fun K h=>?_)
 go_simp;refine h.out _ _ ?_;clear h K
 try simp only[Act.put,uq1,uq2,uq3]
 refine fF (by kernel_rfl) ?_ _
 go_wp2_with fail;go_ret;exact⟨rfl,U.trans gd⟩
structure TestRule(w:World)(fid:Nat)(cap:Array Value)(p:(aW d)→Bool)(xs:List (aW d)):Prop where
 fn:∀args W,(callFunc fid args).run Tryz.prog W=.ok (.enter fid args) W
 calls:∀y∈xs,∀(x:Ext) (fp:List Nat) (cs:Array Value),Rd.rd fp (w.ext x) cs.toList y→Calls Tryz.prog fid (#[.agg cs]++cap) (w.ext x) fun e w'=>e=.returned (.bool (p y))∧Gr (w.ext x) w'
theorem qQ(fp:List Nat)(u:Value)(xs:List (aW d))(B:Nat)(cap:Array Value)(p:(aW d)→Bool)(w:World)(hu:SlR fp w u xs)(Y:TestRule w B cap p xs):
  Qz 202 #[u,.func (.func B) #[] cap] w (.int .i64 (idxOf p xs)):=by
 obtain⟨a,ca,rfl,h1,h2,O⟩:=hu.open;obtain⟨ae,q⟩:=Y;have Z:=Kz q;clear q;delta Qz;go_in
 go_wp2
 go_loopw [8,5] (fun D s5 wr=>∃k:Nat,k≤xs.length∧(∀j (h:j<xs.length),j<k→p xs[j]=false)∧Gr w wr∧D=.int .i64 k) (fun D s5 _=>xs.length - (intOf D).toNat)
 case atStart=>exact⟨0,by omega,by omega,Gr.refl w,rfl⟩
 case round=>
  obtain⟨k,hk,T,⟨x,rfl⟩,rfl⟩:=hrel;have E:=Kz T;clear T
  by_cases s:k<xs.length
  ·obtain⟨b,off,rfl,hb⟩:=O k s
   obtain⟨q0,q1,q2,q3,q4,q5,ah,ai,aj,au,ax,ay,aL,aN,aS,aV,U,X,-,-,aZ,-,-,bg,-,-,bq,-,-,z0,z1,z2,z3,z4,z5,-⟩:=Lf hu s (Gr.refl _);have H:=Lb U X;clear O;go_wp2_with fail;refine(Z.o _ (List.getElem_mem s) _ _ _ (Rd.gr H gd)).mono ?_;rintro e w2 ⟨rfl,x2,rfl⟩
   go_wp2
   ·have I:p xs[k]=true:=by assumption
    go_ret;exact⟨aC (iH s I E.o).symm,gd⟩
   ·have I:p xs[k]=false:=by assumption
    refine⟨⟨k+1,by omega,fun j J bB=>?_,gd,by go_num⟩,by simp[intOf];omega⟩
    by_cases K:j<k
    ·exact E.o j J K
    ·obtain rfl:j=k:=by omega
     exact I
  ·go_wp2
   go_ret;exact⟨aC (gu fun j J=>E.o j J (by omega)).symm,gd⟩
theorem oQ(fp:List Nat)(u:Value)(xs:List (aW d))(h:Nat)(cap:Array Value)(p:(aW d)→Bool)(w:World)(hu:SlR fp w u xs)(q:TestRule w h cap p xs):
  Qz 135 #[u,.func (.func h) #[] cap] w (.bool (xs.any p)):=by
 delta Qz;go_in
 go_wp2_with (go_at_call 202;refine(qQ fp _ _ _ _ _ _ hu q).mono ?_;rintro e w1 ⟨rfl,s⟩)
 go_ret;refine⟨aa ?_,by assumption⟩;rw[Bool.eq_iff_iff,decide_eq_true_iff];exact iW
end Go.Proofs.YtdhighcpmcdmmaaGreat
