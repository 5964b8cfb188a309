/- Contracts and laws towards ReadsOf, part 16 of 54. No condition. -/
import Derived.Test.YtdhighcpmcdmmaaGreatFx14
import Derived.Test.YtdhighcpmcdmmaaGreatFx15
set_option maxHeartbeats 32000000
set_option maxRecDepth 10000
set_option linter.unusedVariables false
set_option linter.unusedSimpArgs false
namespace Go.Proofs.YtdhighcpmcdmmaaGreat
open Go.RowKit
open _root_.Nat (le_trans)
open _root_.Option (getD_some)
variable{d:Nat}
theorem dX{fx:List Nat}{cx:Array Value}(x:(af d))(n:ByteArray)(w:World)(hx:Rd.rd fx w cx.toList x)(J:aP x≤1048576):
  Calls Tryz.prog 59 #[.agg cx,.string n] w (Found fx w (bW x.1 n) dE):=by
 obtain⟨q,x1,ah,ai,cO,aj,au,dz,rfl,rfl,-,U,bB,bD,dA,bH,bK⟩:=yt hx;have Y:=U.op3;clear hx;have ax:=Kz J;clear J;go_in;go_wp2_with fail
 go_loopw [6] (fun Z wr=>∃k:Nat,k≤q.length∧Ky (∀j (h:j<q.length),j<k→decide (q[j].1=n)=false)∧Gr ((w.alloc (.cells #[.slice ah q.length ai,.slice aj x1.length au] 36)).alloc (.cells #[.string ByteArray.empty,.slice none 0 0] 104)) wr∧Z=.int .i64 k) (fun Z _=>q.length - (intOf Z).toNat)
 case atStart=>exact⟨0,by omega,Kz (by omega),Gr.refl _,rfl⟩
 case round=>
  obtain⟨k,hk,ht,⟨y,rfl⟩,rfl⟩:=hrel
  by_cases B:k<q.length
  ·have bL:=B
   obtain⟨b,off,rfl,dC⟩:=Y k B;obtain⟨ay,dG,D,H,aL⟩:=U.at B;obtain⟨yq,K⟩:=nm (q[k]);rw[←K] at H;have I:=Kz K;have aN:=Kz H;obtain⟨q0,q1⟩:=yq;obtain⟨dL,dU,O,-,dW,aS⟩:=dB (cs:=ay.toArray) q0 q1 (by simpa using H);obtain rfl:=toL O;obtain⟨eH,fe,rfl,bN,bV,cK⟩:=aS.open;have fu:w.cell? ⟨b,off+k*2,none⟩=some (.string q0):=by simpa[Rd.n] using D 0 _ rfl
   replace D:∀j v,_→w.cell? ⟨b,off+k*2+j,none⟩=some v:=D;have fw:=D 1 _ rfl;clear O D H K;clear aL
   by_cases s:q0=n
   ·skip
    obtain rfl:=s;have J:bW q q0=some q[k]:=FX B (by rw[←I.o];simp) ht.o;have T:=Kz J;clear J;have hw:bM q[k]≤1048576:=le_trans (dI bM q B) (by have h:dH q+gz x1≤1048576:=ax.o;exact le_trans (Nat.le_add_right _ _) h);rw[←I.o] at hw;have HW:=Kz hw;clear hw;go_wp2_with fail;refine(Mi (q0,q1) _ (Rd.gr aN.o gd) HW.o).mono ?_;rintro e w' ⟨es,fq,rfl,hr,hf,z1,rfl⟩;have aV:=Kz hr;have X:=Kz hf;obtain⟨r0,aZ,bg,bq,rfl⟩:=xe hr;clear hr hf;go_wp2_with fail
    exact bodyPost_ret (v:=.tuple #[.agg #[.string r0,.slice aZ bg bq],.bool true])
     (by simp[results,Tryz.results59,go_sem]) rfl ⟨_,fq,by rw[T.o];rfl,by rw[T.o,getD_some,←I.o];exact Rd.moved aV.o X.o gd (by simp),fun c hc=>.inr (le_trans (by simp<;>omega) (X.o.2 c hc)),gd⟩
   ·have E:=Kz s
    have e:(q0.toList==n.toList)=false:=by simpa using fun e=>s (str_inj e)
    clear s;go_wp2_with fail;refine⟨⟨k+1,by omega,Kz fun j hj fA=>?_,gd,by go_num⟩,by simp[intOf];omega⟩
    by_cases ae:j<k
    ·exact ht.o j hj ae
    ·obtain rfl:j=k:=by omega
     rw[←I.o];exact decide_eq_false E.o
  ·have hn:bW q n=none:=jU fun j hj=>ht.o j hj (by omega)
   have T:=Kz hn;clear hn;go_wp2_with fail
   exact bodyPost_ret (v:=.tuple #[.agg #[.string ⟨#[]⟩,.slice none 0 0],.bool false])
    (by simp[results,Tryz.results59,go_sem]) rfl ⟨_,_,by rw[T.o];rfl,by rw[T.o];exact CR _,by simp,gd⟩
theorem iM{fx:List Nat}{cx:Array Value}(x:(af d))(n:ByteArray)(w:World)(hx:Rd.rd fx w cx.toList x)(J:aP x≤1048576):
  Calls Tryz.prog 87 #[.agg cx,.string n] w (Found fx w (dJ x.2 n) fH):=by
 obtain⟨x0,s,ah,ai,gm,aj,au,gB,rfl,rfl,-,gD,cO,dz,U,dA,dC⟩:=yt hx;have Y:=U.op3;clear hx;have ax:=Kz J;clear J;go_in;go_wp2_with fail
 go_loopw [6] (fun Z wr=>∃k:Nat,k≤s.length∧Ky (∀j (h:j<s.length),j<k→decide (s[j].1=n)=false)∧Gr ((w.alloc (.cells #[.slice ah x0.length ai,.slice aj s.length au] 36)).alloc (.cells #[.string ByteArray.empty,.string ByteArray.empty,.slice none 0 0,.bool false,.slice none 0 0,.slice none 0 0] 112)) wr∧Z=.int .i64 k) (fun Z _=>s.length - (intOf Z).toNat)
 case atStart=>exact⟨0,by omega,Kz (by omega),Gr.refl _,rfl⟩
 case round=>
  obtain⟨k,hk,ht,⟨y,rfl⟩,rfl⟩:=hrel
  by_cases D:k<s.length
  ·have dG:=D
   obtain⟨b,off,rfl,gF⟩:=Y k D;obtain⟨ay,gH,q,H,aL⟩:=U.at D;obtain⟨yq,K⟩:=nm (s[k]);rw[←K] at H;have I:=Kz K;have aN:=Kz H;obtain⟨q0,q1,q2,q3,q4,q5⟩:=yq;obtain⟨gM,gT,ik,iw,jN,jX,O,-,j4,j5,aS,aV,aZ⟩:=aM (cs:=ay.toArray) q0 q1 q2 q3 q4 q5 (by simpa using H);obtain rfl:=toL O;obtain⟨ku,ky,rfl,dL,dU,dW⟩:=aS.open;obtain⟨kz,kE,rfl,eH,fe,fu⟩:=aV.open;obtain⟨kL,kQ,rfl,fw,fA,fK⟩:=aZ.open;have kS:w.cell? ⟨b,off+k*6,none⟩=some (.string q0):=by simpa[Rd.n] using q 0 _ rfl
   replace q:∀j v,_→w.cell? ⟨b,off+k*6+j,none⟩=some v:=q;have kT:=q 1 _ rfl;have kV:=q 2 _ rfl;have kX:=q 3 _ rfl;have kZ:=q 4 _ rfl;have lq:=q 5 _ rfl;clear O q H K;clear aL
   by_cases B:q0=n
   ·skip
    obtain rfl:=B;have J:dJ s q0=some s[k]:=FX D (by rw[←I.o];simp) ht.o;have T:=Kz J;clear J;have hw:bF s[k]≤1048576:=le_trans (dI bF s D) (by have h:dH x0+gz s≤1048576:=ax.o;exact le_trans (Nat.le_add_left _ _) h);rw[←I.o] at hw;have HW:=Kz hw;clear hw;go_wp2_with fail;refine(DK (q0,q1,q2,q3,q4,q5) _ (Rd.gr aN.o gd) HW.o).mono ?_;rintro e w' ⟨es,fq,rfl,hr,hf,z1,rfl⟩;have bg:=Kz hr;have X:=Kz hf;obtain⟨r0,r1,bq,bB,bD,r3,bH,bK,bL,bN,bV,cK,rfl⟩:=AX hr;clear hr hf;go_wp2_with fail
    exact bodyPost_ret (v:=.tuple #[.agg #[.string r0,.string r1,.slice bq bB bD,.bool r3,.slice bH bK bL,.slice bN bV cK],.bool true])
     (by simp[results,Tryz.results87,go_sem]) rfl ⟨_,fq,by rw[T.o];rfl,by rw[T.o,getD_some,←I.o];exact Rd.moved bg.o X.o gd (by simp),fun c hc=>.inr (le_trans (by simp<;>omega) (X.o.2 c hc)),gd⟩
   ·have E:=Kz B
    have e:(q0.toList==n.toList)=false:=by simpa using fun e=>B (str_inj e)
    clear B;go_wp2_with fail;refine⟨⟨k+1,by omega,Kz fun j hj lG=>?_,gd,by go_num⟩,by simp[intOf];omega⟩
    by_cases ae:j<k
    ·exact ht.o j hj ae
    ·obtain rfl:j=k:=by omega
     rw[←I.o];exact decide_eq_false E.o
  ·have hn:dJ s n=none:=jU fun j hj=>ht.o j hj (by omega)
   have T:=Kz hn;clear hn;go_wp2_with fail
   exact bodyPost_ret (v:=.tuple #[.agg #[.string ⟨#[]⟩,.string ⟨#[]⟩,.slice none 0 0,.bool false,.slice none 0 0,.slice none 0 0],.bool false])
    (by simp[results,Tryz.results87,go_sem]) rfl ⟨_,_,by rw[T.o];rfl,by rw[T.o];exact CE _,by simp,gd⟩
theorem iC{fg:List Nat}{cg:Array Value}(g:(af d)){ft:List Nat}{ct:Array Value}(t:fU)(i:Int)(w:World)(D:Rd.rd fg w cg.toList g)(ht:Rd.rd ft w ct.toList t)(hl:aP g≤1048576):
  Qz 38 #[.agg cg,.agg ct,.int .i64 i] w (.string (zB g t i)):=by
 have HG:=Kz D;obtain⟨s,h,T,U,bV,X,Y,cK,rfl,rfl,-,cO,ay,aL,dz,aN,aS⟩:=yt D;clear D;obtain⟨t0,dA,Z,dC,rfl,rfl,-,ae,aV,aZ⟩:=K8 ht;have ah:=ae.op3;clear ht;have ai:=Kz hl;clear hl
 by_cases E:0≤i∧i≤(t0.length:Int) - 1
 ·obtain⟨n,rfl⟩:∃n:Nat,i=n:=⟨i.toNat,by omega⟩
  have H:n<t0.length:=by omega
  have HI:=Kz E;have I:zB (s,h) t0 (n:Int)=leftOf (s,h) t0[n]:=by unfold zB;rw[gG H]
  have HS:=Kz I;clear E I;obtain⟨b,off,rfl,q⟩:=ah n H;obtain⟨q0,q1,q2,q3,q4,q5,dG,dL,dU,dW,aj,eH,fe,fu,fw,fA,fK,gm,bg,bq,gD,gF,gH,gM,au,gT,ik⟩:=KZ ae H (Gr.refl _);have i0:(0:Int)≤(n:Int):=by omega
  have i1:(n:Int)<(t0.length:Int):=by omega
  delta Qz;go_in;go_wp2_with fail;refine(fJ _ _ _ _ HI.o.1 HI.o.2).mono ?_;rintro e w' ⟨rfl,x1,rfl⟩;go_wp2_with fail;generalize J:(((w.alloc (.cells #[.slice T s.length U,.slice X h.length Y] 36)).alloc (.cells #[.slice (some ⟨b,off,none⟩) t0.length Z] 40)).ext x1)=B;have gB:Gr w B:=gb J;obtain⟨iw,jN⟩:=kb2 J (w.heap.size) (.slice T s.length U) (.slice X h.length Y);have jX:=kb J (w.heap.size+1) 0 (.slice (some ⟨b,off,none⟩) t0.length Z);have sB:B.heap.size=w.heap.size+2+x1.objs.size:=szB J;clear J;have kq:=fun(w':World) (D:Gr B w')=>(gB.trans D).keep au
  go_region_held3 (fun w'=>Gr B w') (exact ga)
   (first|(go_at_call 87;refine(iM (s,h) q4 _ (Rd.gr HG.o (gB.trans ga)) ai.o).mono ?_;rintro e w' ⟨es,fq,rfl,hr,-,x2,rfl⟩;obtain⟨r0,r1,r2,r3,r4,r5,j4,j5,ku,ky,kz,kE,kL,kQ,kS,K,rfl,-,kT,kV,kX,bB,bD,kZ,bH,bK,lq,bL,bN⟩:=KV (x:=(dJ h q4).getD fH) hr;have ax:=Kz K;have lG:=Lt K hr;clear hr K;obtain⟨bb,q⟩:∃b:Bool,b=(dJ h q4).isSome:=⟨_,rfl⟩;rw[←q];have lV:=Kz q;clear q))
  all_goals
   go_wp2_with fail;go_ret;exact⟨E8 (by rw[HS.o,←aj.o];unfold leftOf;rw[←ax.o]),gB.trans gd⟩
 ·have O:i<0∨(t0.length:Int) - 1<i:=by omega
  have HO:=Kz O;have I:zB (s,h) t0 i=ByteArray.empty:=by unfold zB;rw[jY O]
  have HS:=Kz I;clear E O I;delta Qz;go_in;go_wp2_with fail;refine(eu _ _ _ _ HO.o).mono ?_;rintro e w' ⟨rfl,x1,rfl⟩;go_wp2_with fail;go_ret;exact⟨by rw[HS.o];rfl,gd⟩
theorem uP(x:Int)(w:World):Calls Tryz.prog 309 #[.int .u8 x] w fun e w'=>e=.returned (.bool (decide (97≤x)&&decide (x≤122)))∧w=w':=by
 go_in
 go_wp2
 all_goals
  go_ret;refine⟨aa ?_,rfl⟩;rw[Bool.eq_iff_iff];simp[*]
  try omega
theorem uj(x:Int)(w:World):Calls Tryz.prog 310 #[.int .u8 x] w fun e w'=>e=.returned (.bool (decide (48≤x)&&decide (x≤57)))∧w=w':=by
 go_in
 go_wp2
 all_goals
  go_ret;refine⟨aa ?_,rfl⟩;rw[Bool.eq_iff_iff];simp[*]
  try omega
theorem Kl:rQ.map ByteArray.toList=[[105,102],[116,104,101,110],[101,108,115,101],[116,114,117,101],[102,97,108,115,101],[108,105,116],[110,111,110,101],[115,101,108,102],[111,102],[109,97,120],[109,105,110],[119,105,116,104],[104,97,115]]:=by
 simp only[rQ,List.map_cons,List.map_nil,ByteArray.toList_eq]
theorem Kq(s:ByteArray):s∈rQ↔s.toList∈rQ.map ByteArray.toList:=⟨fun h=>List.mem_map.2 ⟨s,h,rfl⟩,fun h=>by
 obtain⟨y,q,e⟩:=List.mem_map.1 h;rw[←str_inj e];exact q⟩
set_option maxRecDepth 100000 in
theorem sK(s:ByteArray)(w:World):Qz 311 #[.string s] w (.bool (pB (s∈rQ))):=by
 have q:=Kz (Kq s);delta Qz;go_in;go_wp2_with fail
 all_goals
  go_ret;refine⟨aa ?_,Gr.refl _⟩;rw[iO q.o,Kl];clear q;generalize s.toList=L at*
  first
  |(exfalso;simp_all;done)
  |(refine(bQ ?_).symm;rw[eq_of_beq ‹(L==_)=true›];decide)
  |(refine(bz fun h=>?_).symm;simp_all;done)
 
theorem uY(c:UInt8)(w:World)(h:qz c):Calls Tryz.prog 309 #[.int .u8 (c.toNat:Int)] w fun e w'=>e=.returned (.bool true)∧w=w':=
 (uP _ w).mono fun e w' ⟨he,hw⟩=>⟨by rw[he,decide_eq_true h.1,decide_eq_true h.2];rfl,hw⟩
theorem qJ(c:UInt8)(w:World)(h:¬qz c):Calls Tryz.prog 309 #[.int .u8 (c.toNat:Int)] w fun e w'=>e=.returned (.bool false)∧w=w':=
 (uP _ w).mono fun e w' ⟨he,hw⟩=>⟨by
  have:(decide ((97:Int)≤(c.toNat:Int))&&decide ((c.toNat:Int)≤122))=false:=by
   rw[Bool.eq_false_iff];intro k;rw[Bool.and_eq_true,decide_eq_true_iff,decide_eq_true_iff] at k;exact h k
  rw[he,this],hw⟩
theorem Dg(c:UInt8)(w:World)(h:rV c):Calls Tryz.prog 310 #[.int .u8 (c.toNat:Int)] w fun e w'=>e=.returned (.bool true)∧w=w':=
 (uj _ w).mono fun e w' ⟨he,hw⟩=>⟨by rw[he,decide_eq_true h.1,decide_eq_true h.2];rfl,hw⟩
theorem D9(c:UInt8)(w:World)(h:¬rV c):Calls Tryz.prog 310 #[.int .u8 (c.toNat:Int)] w fun e w'=>e=.returned (.bool false)∧w=w':=
 (uj _ w).mono fun e w' ⟨he,hw⟩=>⟨by
  have:(decide ((48:Int)≤(c.toNat:Int))&&decide ((c.toNat:Int)≤57))=false:=by
   rw[Bool.eq_false_iff];intro k;rw[Bool.and_eq_true,decide_eq_true_iff,decide_eq_true_iff] at k;exact h k
  rw[he,this],hw⟩
theorem bG(s:ByteArray)(hs:s.size≤2097152)(w:World):Qz 261 #[.string s] w (.bool (pB (dh s))):=by
 delta Qz;go_in;go_wp2_with fail
 go_loopw [6] (fun K wr=>∃k:Nat,k≤s.size∧Ky (∀j (h:j<s.size),j<k→qz s[j]∨rV s[j])∧wr=w∧K=.int .i64 k) (fun K _=>s.size - (intOf K).toNat)
 case atStart=>exact⟨0,by omega,Kz (fun j h U=>by omega),rfl,rfl⟩
 case round=>
  obtain⟨k,hk,O,rfl,rfl⟩:=hrel
  by_cases X:k<s.size
  ·have k0:(0:Int)≤(k:Int):=by omega
   have k1:(k:Int)<(s.size:Int):=by omega
   have iw:=zI1 k (by omega)
   by_cases q:qz s[k]
   ·have B:=Kz (show∀j (h:j<s.size),j<k+1→qz s[j]∨rV s[j] from fun j h hj=>by
     by_cases e:j=k
     ·subst e;exact .inl q
     ·exact O.o j h (by omega))
    have E:=Kz q;clear q
    go_wp2_with (first|(go_at_call 309;refine(uY _ _ E.o).mono ?_;rintro e w' ⟨rfl,rfl⟩))
    exact⟨⟨k+1,by omega,B,trivial,by go_num⟩,by simp[intOf];omega⟩
   ·by_cases H:rV s[k]
    ·have B:=Kz (show∀j (h:j<s.size),j<k+1→qz s[j]∨rV s[j] from fun j h hj=>by
      by_cases e:j=k
      ·subst e;exact .inr H
      ·exact O.o j h (by omega))
     have E:=Kz q;have T:=Kz H;clear q H
     go_wp2_with (first|(go_at_call 309;refine(qJ _ _ E.o).mono ?_;rintro e w' ⟨rfl,rfl⟩)|(go_at_call 310;refine(Dg _ _ T.o).mono ?_;rintro e w' ⟨rfl,rfl⟩))
     exact⟨⟨k+1,by omega,B,trivial,by go_num⟩,by simp[intOf];omega⟩
    ·have B:=Kz (bz (show¬dh s from fun h=>(h.1.2 k X).elim q fun h=>H h.2))
     have E:=Kz q;have T:=Kz H;clear q H
     go_wp2_with (first|(go_at_call 309;refine(qJ _ _ E.o).mono ?_;rintro e w' ⟨rfl,rfl⟩)|(go_at_call 310;refine(D9 _ _ T.o).mono ?_;rintro e w' ⟨rfl,rfl⟩))
     go_ret;exact⟨aa B.o.symm,Gr.refl _⟩
  ·obtain rfl:k=s.size:=by omega
   by_cases I:1≤(s.size:Int)∧(s.size:Int)≤8
   ·have U:0<s.size:=by omega
    have D:=Kz I;clear I
    by_cases q:qz s[0]
    ·have B:=Kz (show pB (dh s)=!(pB (s∈rQ)) from by
      have Y:qw s:=⟨by omega,fun j h=>(O.o j h h).elim .inl fun H=>by
       by_cases e:j=0
       ·subst e;exact .inl q
       ·exact .inr ⟨e,H⟩⟩
      by_cases J:s∈rQ
      ·rw[bQ J,bz (fun h=>h.2.2 J)];rfl
      ·rw[bz J,bQ ⟨Y,by have:=D.o;omega,J⟩];rfl)
     have E:=Kz q;clear q
     go_wp2_with (first|(go_at_call 101;refine(kC _ _ _ _ D.o.1 D.o.2).mono ?_;rintro e w' ⟨rfl,Z,rfl⟩)|(go_at_call 309;refine(uY _ _ E.o).mono ?_;rintro e w' ⟨rfl,rfl⟩)|(go_at_call 311;refine(sK _ _).mono ?_;rintro e w' ⟨rfl,x2,rfl⟩))
     go_ret;exact⟨aa (by rw[B.o]),gd⟩
    ·have B:=Kz (bz (show¬dh s from fun h=>(h.1.2 0 U).elim q fun h=>h.1 rfl))
     have E:=Kz q;clear q
     go_wp2_with (first|(go_at_call 101;refine(kC _ _ _ _ D.o.1 D.o.2).mono ?_;rintro e w' ⟨rfl,Z,rfl⟩)|(go_at_call 309;refine(qJ _ _ E.o).mono ?_;rintro e w' ⟨rfl,rfl⟩))
     go_ret;exact⟨aa B.o.symm,gd⟩
   ·have B:=Kz (bz (show¬dh s from fun h=>I ⟨by have:=h.1.1;omega,by have:=h.2.1;omega⟩))
    have D:=Kz (show(s.size:Int)<1∨8<(s.size:Int) by omega);clear I
    go_wp2_with (first|(go_at_call 101;refine(mX _ _ _ _ D.o).mono ?_;rintro e w' ⟨rfl,Z,rfl⟩))
    go_ret;exact⟨aa B.o.symm,gd⟩
end Go.Proofs.YtdhighcpmcdmmaaGreat
