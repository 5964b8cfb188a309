/- Contracts and laws towards ReadsOf, part 26 of 54. No condition. -/
import Derived.Test.YtdhighcpmcdmmaaGreatFx19
set_option maxHeartbeats 32000000
set_option maxRecDepth 10000
set_option linter.unusedVariables false
set_option linter.unusedSimpArgs false
namespace Go.Proofs.YtdhighcpmcdmmaaGreat
open Go.RowKit
variable{d:Nat}
theorem AQ:∀(d:Nat) (x:GE d),cZ d x≤wtE d x+1
 |0,x=>PEmpty.elim x
 |d+1,x=>by
  obtain⟨q0,q1,q2,q3,q4,q5,q6⟩:=(x:aA d)
  show 1+(q6.map (cZ d)).sum≤(q4.size+q5.size+wtL (wtE d) q6)+1
  have:∀xs:List (GE d),(xs.map (cZ d)).sum≤wtL (wtE d) xs:=by
   intro xs
   induction xs with
   |nil=>simp
   |cons y q h=>
    simp only[List.map_cons,wtL,List.sum_cons,List.length_cons] at h ⊢;have:=AQ d y;omega
  have:=this q6;omega
theorem Km(d:Nat)(q6:List (GE d)){k:Nat}(h:k<q6.length):1+((q6.take (k+1)).map (cZ d)).sum=1+((q6.take k).map (cZ d)).sum+cZ d q6[k]:=by rw[lI (cZ d) q6 h];omega
theorem Kv(d:Nat)(q6:List (GE d)){k:Nat}(h:k<q6.length):cZ d q6[k]≤1+(q6.map (cZ d)).sum:=by
 have q:=lI (cZ d) q6 h;have s:=nu (cZ d) q6 (k+1);omega
theorem rC(hE:∀(fp:List Nat) (cs:Array Value) (x:GE d) (w:World) (T:Rd.rd fp w cs.toList x) (hl:cZ d x≤2097152),Calls Tryz.prog 223 #[.agg cs] w (r9 (cZ d x:Nat) w))
  (fp:List Nat) (cs:Array Value) (x:aA d) (w:World) (T:Rd.rd fp w cs.toList x) (Z:cZ (d+1) x≤2097152):Calls Tryz.prog 223 #[.agg cs] w (r9 (cZ (d+1) x:Nat) w):=by
 obtain⟨q0,q1,q2,q3,q4,q5,q6,H,I,bH,rfl,rfl,-,bK,bL,bN,bV,cK,cO,J,bB,bD⟩:=KU T;have s:=J.op3;have ae:=Kz J;clear T;rw[wE] at Z ⊢;go_in;go_wp2_with fail;generalize h:w.alloc (.cells #[.int .i64 q0,.int .i64 q1,.int .i64 q2,.int .i64 q3,.string q4,.string q5,.slice H q6.length I] 115)=B;have gB:Gr w B:=gb h;have b0:B.cell? ⟨w.heap.size,0,none⟩=some (.int .i64 q0):=by rw[←h];exact aJ rfl rfl
 have b1:B.cell? ⟨w.heap.size,1,none⟩=some (.int .i64 q1):=by rw[←h];exact aJ rfl rfl
 have b2:B.cell? ⟨w.heap.size,2,none⟩=some (.int .i64 q2):=by rw[←h];exact aJ rfl rfl
 have b3:B.cell? ⟨w.heap.size,3,none⟩=some (.int .i64 q3):=by rw[←h];exact aJ rfl rfl
 have b4:B.cell? ⟨w.heap.size,4,none⟩=some (.string q4):=by rw[←h];exact aJ rfl rfl
 have b5:B.cell? ⟨w.heap.size,5,none⟩=some (.string q5):=by rw[←h];exact aJ rfl rfl
 have b6:B.cell? ⟨w.heap.size,6,none⟩=some (.slice H q6.length I):=by rw[←h];exact aJ rfl rfl
 have ah:=Kz gB;have HB:=Kz (And.intro b0 (And.intro b1 (And.intro b2 (And.intro b3 (And.intro b4 (And.intro b5 b6))))));clear h gB b0 b1 b2 b3 b4 b5 b6
 go_loopw [9,3] (fun U s3 wr=>∃(k m:Nat),k≤q6.length∧Ky (m=1+((q6.take k).map (cZ d)).sum)∧Ky (Gr B wr)∧U=.int .i64 k∧s3=.int .i64 m) (fun U _ _=>q6.length - (intOf U).toNat)
 case atStart=>exact⟨0,1,by omega,Kz (by simp),Kz (Gr.refl _),rfl,rfl⟩
 case round=>
  obtain⟨k,m,hk,D,X,rfl,rfl⟩:=hrel
  rename World=>W1
  have dz:m≤2097152:=by have h1:=D.o;have h2:=nu (cZ d) q6 k;omega
  have y6:=X.o.keep HB.o.2.2.2.2.2.2;have E:=Kz (ah.o.trans X.o)
  by_cases q:k<q6.length
  ·have K:=Kz (Km d q6 q)
   have O:cZ d q6[k]≤2097152:=by have:=Kv d q6 q;omega
   have ai:=Kz O;have aj:m+cZ d q6[k]≤2097152:=by have h1:=D.o;have h2:=nu (cZ d) q6 (k+1);have h3:=K.o;omega
   obtain⟨r,Y⟩:=nm (cZ d q6[k]);rw[←Y] at O aj;have HR:=Kz Y;clear Y;have dA:IntKind.i64.wrap ((m:Int)+(r:Int))=(m:Int)+(r:Int):=IntWalk.i64_in _ (by omega)
   obtain⟨d1,rfl⟩:∃e,d=e+1:=by
    cases d with
    |zero=>exact PEmpty.elim (q6[k])
    |succ e=>exact⟨e,rfl⟩
   obtain⟨b,off,rfl,hb⟩:=s k q;obtain⟨p0,p1,p2,p3,p4,p5,p6,dC,dG,dL,dU,au,ax,ay,aL,aN,aS,aV,aZ,bg,-,-,z0,z1,z2,z3,z4,z5,z6,zb⟩:=Lc ae.o q E.o;have k0:(0:Int)≤(k:Int):=by omega
   have k1:(k:Int)<(q6.length:Int):=by omega
   have iw:=zI1 k (by omega);clear s ay aL aN aS aV aZ bg;go_wp2_with fail;refine(hE _ _ q6[k] _ (Rd.gr (by rw[←au.o];exact ax.o) (tg E)) ai.o).mono ?_;rintro e w' ⟨rfl,x2,rfl⟩;rw[←HR.o];go_wp2_with fail;refine⟨⟨k+1,m+r,by omega,Kz (by rw[K.o,←HR.o];have:=D.o;omega),Kz (tg X),by go_num,?_⟩,by simp[intOf];omega⟩
   first|(go_num;done)|(congr 1;omega)
  ·have bq:k=q6.length:=by omega
   subst bq;rw[List.take_length] at D;go_wp2_with fail;go_ret;exact⟨aC (by rw[←D.o];try omega),E.o⟩
theorem qj:(d:Nat)→∀(fp:List Nat) (cs:Array Value) (x:GE d) (w:World) (h:Rd.rd fp w cs.toList x) (q:cZ d x≤2097152),Calls Tryz.prog 223 #[.agg cs] w (r9 (cZ d x:Nat) w)
 |0=>by intro fp cs x;exact PEmpty.elim x
 |d+1=>rC (qj d)
theorem rY(hE:∀(fp:List Nat) (cs:Array Value) (x:GE d) (w:World) (T:Rd.rd fp w cs.toList x) (hl:iP d x≤2097152),Calls Tryz.prog 224 #[.agg cs] w (r9 (iP d x:Nat) w))
  (fp:List Nat) (cs:Array Value) (x:aA d) (w:World) (T:Rd.rd fp w cs.toList x) (Z:iP (d+1) x≤2097152):Calls Tryz.prog 224 #[.agg cs] w (r9 (iP (d+1) x:Nat) w):=by
 obtain⟨q0,q1,q2,q3,q4,q5,q6,H,I,bH,rfl,rfl,-,bK,bL,bN,bV,cK,cO,J,bB,bD⟩:=KU T;have s:=J.op3;have ae:=Kz J;clear T;rw[GJ] at Z ⊢;go_in;go_wp2_with fail;generalize h:w.alloc (.cells #[.int .i64 q0,.int .i64 q1,.int .i64 q2,.int .i64 q3,.string q4,.string q5,.slice H q6.length I] 115)=B;have gB:Gr w B:=gb h;have b0:B.cell? ⟨w.heap.size,0,none⟩=some (.int .i64 q0):=by rw[←h];exact aJ rfl rfl
 have b1:B.cell? ⟨w.heap.size,1,none⟩=some (.int .i64 q1):=by rw[←h];exact aJ rfl rfl
 have b2:B.cell? ⟨w.heap.size,2,none⟩=some (.int .i64 q2):=by rw[←h];exact aJ rfl rfl
 have b3:B.cell? ⟨w.heap.size,3,none⟩=some (.int .i64 q3):=by rw[←h];exact aJ rfl rfl
 have b4:B.cell? ⟨w.heap.size,4,none⟩=some (.string q4):=by rw[←h];exact aJ rfl rfl
 have b5:B.cell? ⟨w.heap.size,5,none⟩=some (.string q5):=by rw[←h];exact aJ rfl rfl
 have b6:B.cell? ⟨w.heap.size,6,none⟩=some (.slice H q6.length I):=by rw[←h];exact aJ rfl rfl
 have ah:=Kz gB;have HB:=Kz (And.intro b0 (And.intro b1 (And.intro b2 (And.intro b3 (And.intro b4 (And.intro b5 b6))))));clear h gB b0 b1 b2 b3 b4 b5 b6
 go_loopw [9,3] (fun U s3 wr=>∃(k m:Nat),k≤q6.length∧Ky (m=((q6.take k).map (iP d)).foldl max 0)∧Ky (Gr B wr)∧U=.int .i64 k∧s3=.int .i64 m) (fun U _ _=>q6.length - (intOf U).toNat)
 case atStart=>exact⟨0,0,by omega,Kz (by simp),Kz (Gr.refl _),rfl,rfl⟩
 case round=>
  obtain⟨k,m,hk,D,X,rfl,rfl⟩:=hrel
  rename World=>W1
  have dz:m≤2097152:=by have h1:=D.o;have h2:=sU (iP d) q6 k;omega
  have y6:=X.o.keep HB.o.2.2.2.2.2.2;have E:=Kz (ah.o.trans X.o)
  by_cases q:k<q6.length
  ·have K:=Kz (BS q)
   have O:iP d q6[k]≤2097152:=by have:=EU (iP d) q6 q;omega
   have ai:=Kz O;have aj:iP d q6[k]≤2097152:=by have h1:=D.o;have h2:=sU (iP d) q6 (k+1);have h3:=K.o;omega
   obtain⟨r,Y⟩:=nm (iP d q6[k]);rw[←Y] at O aj;have HR:=Kz Y;clear Y;have dA:IntKind.i64.wrap ((m:Int)+(r:Int))=(m:Int)+(r:Int):=IntWalk.i64_in _ (by omega)
   obtain⟨d1,rfl⟩:∃e,d=e+1:=by
    cases d with
    |zero=>exact PEmpty.elim (q6[k])
    |succ e=>exact⟨e,rfl⟩
   obtain⟨b,off,rfl,hb⟩:=s k q;obtain⟨p0,p1,p2,p3,p4,p5,p6,dC,dG,dL,dU,au,ax,ay,aL,aN,aS,aV,aZ,bg,-,-,z0,z1,z2,z3,z4,z5,z6,zb⟩:=Lc ae.o q E.o;have k0:(0:Int)≤(k:Int):=by omega
   have k1:(k:Int)<(q6.length:Int):=by omega
   have iw:=zI1 k (by omega);clear s ay aL aN aS aV aZ bg;go_wp2_with fail;refine(hE _ _ q6[k] _ (Rd.gr (by rw[←au.o];exact ax.o) (tg E)) ai.o).mono ?_;rintro e w' ⟨rfl,x2,rfl⟩;rw[←HR.o];go_wp2_with fail;refine⟨⟨k+1,max m r,by omega,Kz (by rw[K.o,←HR.o];have:=D.o;omega),Kz (tg X),by go_num,?_⟩,by simp[intOf];omega⟩
   first|(go_num;done)|(congr 1;omega)
  ·have bq:k=q6.length:=by omega
   subst bq;rw[List.take_length] at D;have dW:=zI1 m (by omega);go_wp2_with fail;go_ret;exact⟨aC (by rw[←D.o];try omega),E.o⟩
theorem qh:(d:Nat)→∀(fp:List Nat) (cs:Array Value) (x:GE d) (w:World) (h:Rd.rd fp w cs.toList x) (q:iP d x≤2097152),Calls Tryz.prog 224 #[.agg cs] w (r9 (iP d x:Nat) w)
 |0=>by intro fp cs x;exact PEmpty.elim x
 |d+1=>rY (qh d)
def fO(q0 q1 q2 q3:Int)(q4 q5:ByteArray)(h q s B:Int)(D E:ByteArray):Bool:=decide (q0=h)&&(decide (q1=q)&&(decide (q2=s)&&(decide (q3=B)&&(decide (q4=D)&&decide (q5=E)))))
theorem gI(q0 q1 q2 q3:Int)(q4 q5:ByteArray)(J:Option Addr)(K O:Nat)(h q s B:Int)(D E:ByteArray)(T:Option Addr)(U X:Nat)(w:World):
  Qz 262 #[.agg #[.int .i64 q0,.int .i64 q1,.int .i64 q2,.int .i64 q3,.string q4,.string q5,.slice J K O],.agg #[.int .i64 h,.int .i64 q,.int .i64 s,.int .i64 B,.string D,.string E,.slice T U X]] w (.bool (fO q0 q1 q2 q3 q4 q5 h q s B D E)):=by
 obtain⟨R,H⟩:=nm (fO q0 q1 q2 q3 q4 q5 h q s B D E);rw[←H];have Y:=Kz H;clear H;delta Qz;go_in;go_wp2_with fail
 ·go_ret
  have t0:q0=h:=by assumption
  have t1:q1=q:=by assumption
  have t2:q2=s:=by assumption
  have t3:q3=B:=by assumption
  have t4:q4.toList=D.toList:=by assumption
  refine⟨aa ?_,gd⟩;rw[Y.o];unfold fO;rw[decide_eq_true t0,decide_eq_true t1,decide_eq_true t2,decide_eq_true t3,decide_eq_true (str_inj t4)]
  by_cases I:q5=E
  ·rw[I];simp
  ·rw[beq_eq_false_iff_ne.2 fun e=>I (str_inj e),decide_eq_false I];rfl
 all_goals
 ·go_ret
  refine⟨aa ?_,gd⟩;rw[Y.o];unfold fO
  symm
  rw[Bool.eq_false_iff];simp only[ne_eq,Bool.and_eq_true,decide_eq_true_eq];rintro⟨Z,e1,e2,e3,e4,-⟩
  first
  |exact absurd (congrArg ByteArray.toList e4) ‹_›
  |exact absurd e3 ‹_›
  |exact absurd e2 ‹_›
  |exact absurd e1 ‹_›
  |exact absurd Z ‹_›
theorem eD{s:ByteArray}:(s=⟨#[]⟩)=(s.toList.isEmpty=true):=propext Ai.symm
def uB(W:World)(a:Nat)(us:List Value)(b:Nat)(vs:List Value)(wr:World):Prop:=Gr W wr∧az wr a 115 us∧az wr b 115 vs
theorem DF(fp:List Nat)(cs:Array Value)(x:aA d)(w:World)(E:Rd.rd fp w cs.toList x)(H:ak x≤1048576)(X:x.1=2):Qz 225 #[.agg cs] w (.bool (pB (jJ x))):=by
 obtain⟨q0,q1,q2,q3,q4,q5,q6,Z,ae,ah,rfl,rfl,-,ai,aj,au,ax,ay,aL,I,q,s⟩:=KU E;have B:=I.op3;clear E;have hw:q4.size+q5.size+wtL (wtE d) q6≤1048576:=H;have J:q4.size≤2097152:=by omega
 have K:q5.size≤2097152:=by omega
 clear H hw;rw[←jd,←jc];obtain⟨R,D⟩:=nm (jg q0 q1 q2 q3 (jL q0 q1 q2 q3 q4 q5 q6.length) (pB (eG q1 q3)) (pB (dh q4)) (pB (dh q5)));rw[←D];have O:=Kz D;clear D;obtain rfl:q0=2:=X;skip;delta Qz;go_in
 go_wp2_with (first|(go_at_call 101;refine(di _ _ _ _).mono ?_;rintro e w' ⟨rfl,rfl⟩)|(go_at_call 260;refine(dV _ _ _).mono ?_;rintro e w' ⟨rfl,x2,rfl⟩)|(go_at_call_of 261 q5;refine(bG _ K _).mono ?_;rintro e w' ⟨rfl,x3,rfl⟩)|(go_at_call_of 261 q4;refine(bG _ J _).mono ?_;rintro e w' ⟨rfl,x4,rfl⟩)|(go_at_call 262;refine(gI _ _ _ _ _ _ _ _ _ _ _ _ _ _ _ _ _ _ _).mono ?_;rintro e w' ⟨rfl,x5,rfl⟩))
 go_ways
 all_goals
  go_ret;refine⟨aa ?_,gd⟩;rw[O.o];clear O q s B;unfold jg jL
  first|(simp_all [fO,eY,eD];done)|(rw[Bool.eq_iff_iff];simp only[fO,Bool.and_eq_true,Bool.or_eq_true,decide_eq_true_eq,beq_iff_eq,eD];simp_all [eY];(try constructor)<;>intro h<;>simp_all;done)|(simp_all [fO,eY,eD];intros;omega)|(have Y:=(dx.1 (show pB (eG q1 q3)=true by assumption)).1;have h4:q3≠4:=(by rintro rfl;simp_all);have T:decide (1≤q3)=true:=decide_eq_true Y.1;have U:decide (q3≤3)=true:=decide_eq_true (by omega);rw[T,U];rw[Bool.eq_iff_iff];simp only[fO,Bool.and_eq_true,Bool.or_eq_true,decide_eq_true_eq,beq_iff_eq,eD];simp_all [eY];(try constructor)<;>intro h<;>simp_all;done)
theorem Ey(fp:List Nat)(cs:Array Value)(x:aA d)(w:World)(E:Rd.rd fp w cs.toList x)(H:ak x≤1048576)(X:x.1=5):Qz 225 #[.agg cs] w (.bool (pB (jJ x))):=by
 obtain⟨q0,q1,q2,q3,q4,q5,q6,Z,ae,ah,rfl,rfl,-,ai,aj,au,ax,ay,aL,I,q,s⟩:=KU E;have B:=I.op3;clear E;have hw:q4.size+q5.size+wtL (wtE d) q6≤1048576:=H;have J:q4.size≤2097152:=by omega
 have K:q5.size≤2097152:=by omega
 clear H hw;rw[←jd,←jc];obtain⟨R,D⟩:=nm (jg q0 q1 q2 q3 (jL q0 q1 q2 q3 q4 q5 q6.length) (pB (eG q1 q3)) (pB (dh q4)) (pB (dh q5)));rw[←D];have O:=Kz D;clear D;obtain rfl:q0=5:=X;skip;delta Qz;go_in
 go_wp2_with (first|(go_at_call 101;refine(di _ _ _ _).mono ?_;rintro e w' ⟨rfl,rfl⟩)|(go_at_call 260;refine(dV _ _ _).mono ?_;rintro e w' ⟨rfl,x2,rfl⟩)|(go_at_call_of 261 q5;refine(bG _ K _).mono ?_;rintro e w' ⟨rfl,x3,rfl⟩)|(go_at_call_of 261 q4;refine(bG _ J _).mono ?_;rintro e w' ⟨rfl,x4,rfl⟩)|(go_at_call 262;refine(gI _ _ _ _ _ _ _ _ _ _ _ _ _ _ _ _ _ _ _).mono ?_;rintro e w' ⟨rfl,x5,rfl⟩))
 go_ways
 all_goals
  go_ret;refine⟨aa ?_,gd⟩;rw[O.o];clear O q s B;unfold jg jL
  first|(simp_all [fO,eY,eD];done)|(rw[Bool.eq_iff_iff];simp only[fO,Bool.and_eq_true,Bool.or_eq_true,decide_eq_true_eq,beq_iff_eq,eD];simp_all [eY];(try constructor)<;>intro h<;>simp_all;done)|(simp_all [fO,eY,eD];intros;omega)|(have Y:=(dx.1 (show pB (eG q1 q3)=true by assumption)).1;have h4:q3≠4:=(by rintro rfl;simp_all);have T:decide (1≤q3)=true:=decide_eq_true Y.1;have U:decide (q3≤3)=true:=decide_eq_true (by omega);rw[T,U];rw[Bool.eq_iff_iff];simp only[fO,Bool.and_eq_true,Bool.or_eq_true,decide_eq_true_eq,beq_iff_eq,eD];simp_all [eY];(try constructor)<;>intro h<;>simp_all;done)
theorem DN(fp:List Nat)(cs:Array Value)(x:aA d)(w:World)(E:Rd.rd fp w cs.toList x)(H:ak x≤1048576)(X:x.1=7):Qz 225 #[.agg cs] w (.bool (pB (jJ x))):=by
 obtain⟨q0,q1,q2,q3,q4,q5,q6,Z,ae,ah,rfl,rfl,-,ai,aj,au,ax,ay,aL,I,q,s⟩:=KU E;have B:=I.op3;clear E;have hw:q4.size+q5.size+wtL (wtE d) q6≤1048576:=H;have J:q4.size≤2097152:=by omega
 have K:q5.size≤2097152:=by omega
 clear H hw;rw[←jd,←jc];obtain⟨R,D⟩:=nm (jg q0 q1 q2 q3 (jL q0 q1 q2 q3 q4 q5 q6.length) (pB (eG q1 q3)) (pB (dh q4)) (pB (dh q5)));rw[←D];have O:=Kz D;clear D;obtain rfl:q0=7:=X;skip;delta Qz;go_in
 go_wp2_with (first|(go_at_call 101;refine(di _ _ _ _).mono ?_;rintro e w' ⟨rfl,rfl⟩)|(go_at_call 260;refine(dV _ _ _).mono ?_;rintro e w' ⟨rfl,x2,rfl⟩)|(go_at_call_of 261 q5;refine(bG _ K _).mono ?_;rintro e w' ⟨rfl,x3,rfl⟩)|(go_at_call_of 261 q4;refine(bG _ J _).mono ?_;rintro e w' ⟨rfl,x4,rfl⟩)|(go_at_call 262;refine(gI _ _ _ _ _ _ _ _ _ _ _ _ _ _ _ _ _ _ _).mono ?_;rintro e w' ⟨rfl,x5,rfl⟩))
 go_ways
 all_goals
  go_ret;refine⟨aa ?_,gd⟩;rw[O.o];clear O q s B;unfold jg jL
  first|(simp_all [fO,eY,eD];done)|(rw[Bool.eq_iff_iff];simp only[fO,Bool.and_eq_true,Bool.or_eq_true,decide_eq_true_eq,beq_iff_eq,eD];simp_all [eY];(try constructor)<;>intro h<;>simp_all;done)|(simp_all [fO,eY,eD];intros;omega)|(have Y:=(dx.1 (show pB (eG q1 q3)=true by assumption)).1;have h4:q3≠4:=(by rintro rfl;simp_all);have T:decide (1≤q3)=true:=decide_eq_true Y.1;have U:decide (q3≤3)=true:=decide_eq_true (by omega);rw[T,U];rw[Bool.eq_iff_iff];simp only[fO,Bool.and_eq_true,Bool.or_eq_true,decide_eq_true_eq,beq_iff_eq,eD];simp_all [eY];(try constructor)<;>intro h<;>simp_all;done)
theorem DX(fp:List Nat)(cs:Array Value)(x:aA d)(w:World)(E:Rd.rd fp w cs.toList x)(H:ak x≤1048576)(X:x.1=6):Qz 225 #[.agg cs] w (.bool (pB (jJ x))):=by
 obtain⟨q0,q1,q2,q3,q4,q5,q6,Z,ae,ah,rfl,rfl,-,ai,aj,au,ax,ay,aL,I,q,s⟩:=KU E;have B:=I.op3;clear E;have hw:q4.size+q5.size+wtL (wtE d) q6≤1048576:=H;have J:q4.size≤2097152:=by omega
 have K:q5.size≤2097152:=by omega
 clear H hw;rw[←jd,←jc];obtain⟨R,D⟩:=nm (jg q0 q1 q2 q3 (jL q0 q1 q2 q3 q4 q5 q6.length) (pB (eG q1 q3)) (pB (dh q4)) (pB (dh q5)));rw[←D];have O:=Kz D;clear D;obtain rfl:q0=6:=X;skip;delta Qz;go_in
 go_wp2_with (first|(go_at_call 101;refine(di _ _ _ _).mono ?_;rintro e w' ⟨rfl,rfl⟩)|(go_at_call 260;refine(dV _ _ _).mono ?_;rintro e w' ⟨rfl,x2,rfl⟩)|(go_at_call_of 261 q5;refine(bG _ K _).mono ?_;rintro e w' ⟨rfl,x3,rfl⟩)|(go_at_call_of 261 q4;refine(bG _ J _).mono ?_;rintro e w' ⟨rfl,x4,rfl⟩)|(go_at_call 262;refine(gI _ _ _ _ _ _ _ _ _ _ _ _ _ _ _ _ _ _ _).mono ?_;rintro e w' ⟨rfl,x5,rfl⟩))
 go_ways
 all_goals
  go_ret;refine⟨aa ?_,gd⟩;rw[O.o];clear O q s B;unfold jg jL
  first|(simp_all [fO,eY,eD];done)|(rw[Bool.eq_iff_iff];simp only[fO,Bool.and_eq_true,Bool.or_eq_true,decide_eq_true_eq,beq_iff_eq,eD];simp_all [eY];(try constructor)<;>intro h<;>simp_all;done)|(simp_all [fO,eY,eD];intros;omega)|(have Y:=(dx.1 (show pB (eG q1 q3)=true by assumption)).1;have h4:q3≠4:=(by rintro rfl;simp_all);have T:decide (1≤q3)=true:=decide_eq_true Y.1;have U:decide (q3≤3)=true:=decide_eq_true (by omega);rw[T,U];rw[Bool.eq_iff_iff];simp only[fO,Bool.and_eq_true,Bool.or_eq_true,decide_eq_true_eq,beq_iff_eq,eD];simp_all [eY];(try constructor)<;>intro h<;>simp_all;done)
theorem Ei(fp:List Nat)(cs:Array Value)(x:aA d)(w:World)(X:Rd.rd fp w cs.toList x)(Y:ak x≤1048576)(hk:x.1=4):Qz 225 #[.agg cs] w (.bool (pB (jJ x))):=by
 obtain⟨q0,q1,q2,q3,q4,q5,q6,q,s,ay,rfl,rfl,-,aL,aN,aS,aV,aZ,bg,Z,K,O⟩:=KU X;have T:=Z.op3;clear X;have hw:q4.size+q5.size+wtL (wtE d) q6≤1048576:=Y;have ae:q4.size≤2097152:=by omega
 have ah:q5.size≤2097152:=by omega
 clear Y hw;rw[←jd,←jc];obtain⟨R,U⟩:=nm (jg q0 q1 q2 q3 (jL q0 q1 q2 q3 q4 q5 q6.length) (pB (eG q1 q3)) (pB (dh q4)) (pB (dh q5)));rw[←U];have HR:=Kz U;clear U;obtain rfl:q0=4:=hk;skip;delta Qz;go_in
 go_upto_region 14 with fail
 generalize E:((w.alloc (.cells #[.int .i64 4,.int .i64 q1,.int .i64 q2,.int .i64 q3,.string q4,.string q5,.slice q q6.length s] 115)).alloc (.cells #[.int .i64 4,.int .i64 0,.int .i64 0,.int .i64 0,.string ⟨#[]⟩,.string ⟨#[]⟩,.slice q q6.length s] 115))=B;have gB:Gr w B:=gb E;have vX:az B w.heap.size 115 [.int .i64 4,.int .i64 q1,.int .i64 q2,.int .i64 q3,.string q4,.string q5,.slice q q6.length s]:=by rw[←E];exact(az.new (A:=w) rfl).gr gd
 have vD:az B (w.heap.size+1) 115 [.int .i64 4,.int .i64 0,.int .i64 0,.int .i64 0,.string ⟨#[]⟩,.string ⟨#[]⟩,.slice q q6.length s]:=by rw[←E];exact az.new (by simp)
 have I:=Kz vX;have J:=Kz vD;have ai:=Kz gB;clear E vX vD gB
 go_cut [4] (fun s4 wr=>s4=.int .i64 2∧uB w w.heap.size [.int .i64 4,.int .i64 q1,.int .i64 q2,.int .i64 q3,.string q4,.string q5,.slice q q6.length s] (w.heap.size+1) [.int .i64 4,.int .i64 q1,.int .i64 0,.int .i64 0,.string ⟨#[]⟩,.string ⟨#[]⟩,.slice q q6.length s] wr)
 case first=>
  have H:=I.o;have D:=J.o;obtain⟨x0,x1,x2,x3,x4,x5,x6⟩:=H.c7;obtain⟨y0,y1,y2,y3,y4,y5,y6⟩:=D.c7;have fy:=fun k=>D.frozen k
  go_wp2_with fail;go_meet;unfold uB;first|(refine⟨rfl,⟨?_,?_,?_⟩⟩;exact(Gr.setCell (p:=⟨w.heap.size+1,1,none⟩) ai.o (show w.heap.size≤w.heap.size+1 by omega) (.int .i64 q1));exact(az.ne I.o (by omega));exact(az.set J.o 1 (.int .i64 q1)))
 case rest=>
  obtain⟨rfl,gD,H,D⟩:=hcut
  rename World=>W2
  have aj:=Kz gD;obtain⟨x0,x1,x2,x3,x4,x5,x6⟩:=H.c7;obtain⟨y0,y1,y2,y3,y4,y5,y6⟩:=D.c7;clear H D gD
  go_wp2_with (first|(go_at_call 101;refine(di _ _ _ _).mono ?_;rintro e w' ⟨rfl,rfl⟩)|(go_at_call 260;refine(dV _ _ _).mono ?_;rintro e w' ⟨rfl,x2,rfl⟩)|(go_at_call_of 261 q5;refine(bG _ ah _).mono ?_;rintro e w' ⟨rfl,x3,rfl⟩)|(go_at_call_of 261 q4;refine(bG _ ae _).mono ?_;rintro e w' ⟨rfl,x4,rfl⟩)|(go_at_call 262;refine(gI _ _ _ _ _ _ _ _ _ _ _ _ _ _ _ _ _ _ _).mono ?_;rintro e w' ⟨rfl,x5,rfl⟩))
  go_ways
  all_goals
   go_ret;refine⟨aa ?_,aj.o.trans gd⟩;rw[HR.o];clear HR K O T;unfold jg jL
   first|(simp_all [fO,eY,eD];done)|(rw[Bool.eq_iff_iff];simp only[fO,Bool.and_eq_true,Bool.or_eq_true,decide_eq_true_eq,beq_iff_eq,eD];simp_all [eY];(try constructor)<;>intro h<;>simp_all;done)|(simp_all [fO,eY,eD];intros;omega)|(have ho:=(dx.1 (show pB (eG q1 q3)=true by assumption)).1;have h4:q3≠4:=(by rintro rfl;simp_all);have au:decide (1≤q3)=true:=decide_eq_true ho.1;have ax:decide (q3≤3)=true:=decide_eq_true (by omega);rw[au,ax];rw[Bool.eq_iff_iff];simp only[fO,Bool.and_eq_true,Bool.or_eq_true,decide_eq_true_eq,beq_iff_eq,eD];simp_all [eY];(try constructor)<;>intro h<;>simp_all;done)
theorem Dx(fp:List Nat)(cs:Array Value)(x:aA d)(w:World)(hx:Rd.rd fp w cs.toList x)(hl:ak x≤1048576)(hk:x.1=1):Qz 225 #[.agg cs] w (.bool (pB (jJ x))):=by
 obtain⟨q0,q1,q2,q3,q4,q5,q6,q,s,ay,rfl,rfl,-,aL,aN,aS,aV,aZ,bg,ae,O,T⟩:=KU hx;have U:=ae.op3;clear hx;have hw:q4.size+q5.size+wtL (wtE d) q6≤1048576:=hl;have ah:q4.size≤2097152:=by omega
 have ai:q5.size≤2097152:=by omega
 clear hl hw;rw[←jd,←jc];obtain⟨R,X⟩:=nm (jg q0 q1 q2 q3 (jL q0 q1 q2 q3 q4 q5 q6.length) (pB (eG q1 q3)) (pB (dh q4)) (pB (dh q5)));rw[←X];have HR:=Kz X;clear X;obtain rfl:q0=1:=hk;skip;delta Qz;go_in;go_wp2_with fail;generalize I:((w.alloc (.cells #[.int .i64 1,.int .i64 q1,.int .i64 q2,.int .i64 q3,.string q4,.string q5,.slice q q6.length s] 115)).alloc (.cells #[.int .i64 1,.int .i64 0,.int .i64 0,.int .i64 0,.string ⟨#[]⟩,.string ⟨#[]⟩,.slice q q6.length s] 115))=B;have gB:Gr w B:=gb I;have vX:az B w.heap.size 115 [.int .i64 1,.int .i64 q1,.int .i64 q2,.int .i64 q3,.string q4,.string q5,.slice q q6.length s]:=by rw[←I];exact(az.new (A:=w) rfl).gr gd
 have vD:az B (w.heap.size+1) 115 [.int .i64 1,.int .i64 0,.int .i64 0,.int .i64 0,.string ⟨#[]⟩,.string ⟨#[]⟩,.slice q q6.length s]:=by rw[←I];exact az.new (by simp)
 have D:=Kz vX;have E:=Kz vD;have K:=Kz gB;clear I vX vD gB
 go_cut [] (fun wr=>uB w w.heap.size [.int .i64 1,.int .i64 q1,.int .i64 q2,.int .i64 q3,.string q4,.string q5,.slice q q6.length s] (w.heap.size+1) [.int .i64 1,.int .i64 q1,.int .i64 0,.int .i64 q3,.string ⟨#[]⟩,.string ⟨#[]⟩,.slice q q6.length s] wr)
 case first=>
  have J:=D.o;have H:=E.o;obtain⟨Y,x1,x2,x3,x4,x5,x6⟩:=J.c7;obtain⟨Z,y1,y2,y3,y4,y5,y6⟩:=H.c7;have zx:=blk Y;have zy:=blk Z;have fy:=fun k=>H.frozen k
  go_region
  all_goals
   go_wp2_with fail;go_meet;unfold uB;first|(refine⟨?_,?_,?_⟩;exact(Gr.setCell (p:=⟨w.heap.size+1,3,none⟩) (Gr.setCell (p:=⟨w.heap.size+1,1,none⟩) K.o (show w.heap.size≤w.heap.size+1 by omega) (.int .i64 q1)) (show w.heap.size≤w.heap.size+1 by omega) (.int .i64 q3)).drew;exact((az.ne (az.ne D.o (by omega)) (by omega)).gr (Gr.drew (Gr.refl _)));exact((az.set (az.set E.o 1 (.int .i64 q1)) 3 (.int .i64 q3)).gr (Gr.drew (Gr.refl _))))|(refine⟨?_,?_,?_⟩;exact(Gr.setCell (p:=⟨w.heap.size+1,1,none⟩) (Gr.setCell (p:=⟨w.heap.size+1,3,none⟩) K.o (show w.heap.size≤w.heap.size+1 by omega) (.int .i64 q3)) (show w.heap.size≤w.heap.size+1 by omega) (.int .i64 q1)).drew;exact((az.ne (az.ne D.o (by omega)) (by omega)).gr (Gr.drew (Gr.refl _)));exact((az.set (az.set E.o 3 (.int .i64 q3)) 1 (.int .i64 q1)).gr (Gr.drew (Gr.refl _))))
 case rest=>
  obtain⟨gD,J,H⟩:=hcut
  rename World=>W2
  have aj:=Kz gD;obtain⟨Y,x1,x2,x3,x4,x5,x6⟩:=J.c7;obtain⟨Z,y1,y2,y3,y4,y5,y6⟩:=H.c7;have zx:=blk Y;have zy:=blk Z;clear J H gD
  go_wp2_with (first|(go_at_call 101;refine(di _ _ _ _).mono ?_;rintro e w' ⟨rfl,rfl⟩)|(go_at_call 260;refine(dV _ _ _).mono ?_;rintro e w' ⟨rfl,x2,rfl⟩)|(go_at_call_of 261 q5;refine(bG _ ai _).mono ?_;rintro e w' ⟨rfl,x3,rfl⟩)|(go_at_call_of 261 q4;refine(bG _ ah _).mono ?_;rintro e w' ⟨rfl,x4,rfl⟩)|(go_at_call 262;refine(gI _ _ _ _ _ _ _ _ _ _ _ _ _ _ _ _ _ _ _).mono ?_;rintro e w' ⟨rfl,x5,rfl⟩))
  go_ways
  all_goals
   go_ret;refine⟨aa ?_,aj.o.trans gd⟩;rw[HR.o];clear HR O T U;unfold jg jL
   first|(simp_all [fO,eY,eD];done)|(rw[Bool.eq_iff_iff];simp only[fO,Bool.and_eq_true,Bool.or_eq_true,decide_eq_true_eq,beq_iff_eq,eD];simp_all [eY];(try constructor)<;>intro h<;>simp_all;done)|(simp_all [fO,eY,eD];intros;omega)|(have ho:=(dx.1 (show pB (eG q1 q3)=true by assumption)).1;have h4:q3≠4:=(by rintro rfl;simp_all);have au:decide (1≤q3)=true:=decide_eq_true ho.1;have ax:decide (q3≤3)=true:=decide_eq_true (by omega);rw[au,ax];rw[Bool.eq_iff_iff];simp only[fO,Bool.and_eq_true,Bool.or_eq_true,decide_eq_true_eq,beq_iff_eq,eD];simp_all [eY];(try constructor)<;>intro h<;>simp_all;done)
theorem DW(fp:List Nat)(cs:Array Value)(x:aA d)(w:World)(hx:Rd.rd fp w cs.toList x)(hl:ak x≤1048576)(hk:x.1=3):Qz 225 #[.agg cs] w (.bool (pB (jJ x))):=by
 obtain⟨q0,q1,q2,q3,q4,q5,q6,q,s,ay,rfl,rfl,-,aL,aN,aS,aV,aZ,bg,ae,O,T⟩:=KU hx;have U:=ae.op3;clear hx;have hw:q4.size+q5.size+wtL (wtE d) q6≤1048576:=hl;have ah:q4.size≤2097152:=by omega
 have ai:q5.size≤2097152:=by omega
 clear hl hw;rw[←jd,←jc];obtain⟨R,X⟩:=nm (jg q0 q1 q2 q3 (jL q0 q1 q2 q3 q4 q5 q6.length) (pB (eG q1 q3)) (pB (dh q4)) (pB (dh q5)));rw[←X];have HR:=Kz X;clear X;obtain rfl:q0=3:=hk;skip;delta Qz;go_in;go_wp2_with fail;generalize I:((w.alloc (.cells #[.int .i64 3,.int .i64 q1,.int .i64 q2,.int .i64 q3,.string q4,.string q5,.slice q q6.length s] 115)).alloc (.cells #[.int .i64 3,.int .i64 0,.int .i64 0,.int .i64 0,.string ⟨#[]⟩,.string ⟨#[]⟩,.slice q q6.length s] 115))=B;have gB:Gr w B:=gb I;have vX:az B w.heap.size 115 [.int .i64 3,.int .i64 q1,.int .i64 q2,.int .i64 q3,.string q4,.string q5,.slice q q6.length s]:=by rw[←I];exact(az.new (A:=w) rfl).gr gd
 have vD:az B (w.heap.size+1) 115 [.int .i64 3,.int .i64 0,.int .i64 0,.int .i64 0,.string ⟨#[]⟩,.string ⟨#[]⟩,.slice q q6.length s]:=by rw[←I];exact az.new (by simp)
 have D:=Kz vX;have E:=Kz vD;have K:=Kz gB;clear I vX vD gB
 go_cut [] (fun wr=>uB w w.heap.size [.int .i64 3,.int .i64 q1,.int .i64 q2,.int .i64 q3,.string q4,.string q5,.slice q q6.length s] (w.heap.size+1) [.int .i64 3,.int .i64 0,.int .i64 q2,.int .i64 0,.string ⟨#[]⟩,.string q5,.slice q q6.length s] wr)
 case first=>
  have J:=D.o;have H:=E.o;obtain⟨Y,x1,x2,x3,x4,x5,x6⟩:=J.c7;obtain⟨Z,y1,y2,y3,y4,y5,y6⟩:=H.c7;have zx:=blk Y;have zy:=blk Z;have fy:=fun k=>H.frozen k
  go_region
  all_goals
   go_wp2_with fail;go_meet;unfold uB;first|(refine⟨?_,?_,?_⟩;exact(Gr.setCell (p:=⟨w.heap.size+1,5,none⟩) (Gr.setCell (p:=⟨w.heap.size+1,2,none⟩) K.o (show w.heap.size≤w.heap.size+1 by omega) (.int .i64 q2)) (show w.heap.size≤w.heap.size+1 by omega) (.string q5)).drew;exact((az.ne (az.ne D.o (by omega)) (by omega)).gr (Gr.drew (Gr.refl _)));exact((az.set (az.set E.o 2 (.int .i64 q2)) 5 (.string q5)).gr (Gr.drew (Gr.refl _))))|(refine⟨?_,?_,?_⟩;exact(Gr.setCell (p:=⟨w.heap.size+1,2,none⟩) (Gr.setCell (p:=⟨w.heap.size+1,5,none⟩) K.o (show w.heap.size≤w.heap.size+1 by omega) (.string q5)) (show w.heap.size≤w.heap.size+1 by omega) (.int .i64 q2)).drew;exact((az.ne (az.ne D.o (by omega)) (by omega)).gr (Gr.drew (Gr.refl _)));exact((az.set (az.set E.o 5 (.string q5)) 2 (.int .i64 q2)).gr (Gr.drew (Gr.refl _))))
 case rest=>
  obtain⟨gD,J,H⟩:=hcut
  rename World=>W2
  have aj:=Kz gD;obtain⟨Y,x1,x2,x3,x4,x5,x6⟩:=J.c7;obtain⟨Z,y1,y2,y3,y4,y5,y6⟩:=H.c7;have zx:=blk Y;have zy:=blk Z;clear J H gD
  go_wp2_with (first|(go_at_call 101;refine(di _ _ _ _).mono ?_;rintro e w' ⟨rfl,rfl⟩)|(go_at_call 260;refine(dV _ _ _).mono ?_;rintro e w' ⟨rfl,x2,rfl⟩)|(go_at_call_of 261 q5;refine(bG _ ai _).mono ?_;rintro e w' ⟨rfl,x3,rfl⟩)|(go_at_call_of 261 q4;refine(bG _ ah _).mono ?_;rintro e w' ⟨rfl,x4,rfl⟩)|(go_at_call 262;refine(gI _ _ _ _ _ _ _ _ _ _ _ _ _ _ _ _ _ _ _).mono ?_;rintro e w' ⟨rfl,x5,rfl⟩))
  go_ways
  all_goals
   go_ret;refine⟨aa ?_,aj.o.trans gd⟩;rw[HR.o];clear HR O T U;unfold jg jL
   first|(simp_all [fO,eY,eD];done)|(rw[Bool.eq_iff_iff];simp only[fO,Bool.and_eq_true,Bool.or_eq_true,decide_eq_true_eq,beq_iff_eq,eD];simp_all [eY];(try constructor)<;>intro h<;>simp_all;done)|(simp_all [fO,eY,eD];intros;omega)|(have ho:=(dx.1 (show pB (eG q1 q3)=true by assumption)).1;have h4:q3≠4:=(by rintro rfl;simp_all);have au:decide (1≤q3)=true:=decide_eq_true ho.1;have ax:decide (q3≤3)=true:=decide_eq_true (by omega);rw[au,ax];rw[Bool.eq_iff_iff];simp only[fO,Bool.and_eq_true,Bool.or_eq_true,decide_eq_true_eq,beq_iff_eq,eD];simp_all [eY];(try constructor)<;>intro h<;>simp_all;done)
theorem Es(fp:List Nat)(cs:Array Value)(x:aA d)(w:World)(hx:Rd.rd fp w cs.toList x)(hl:ak x≤1048576)(hk:x.1=8):Qz 225 #[.agg cs] w (.bool (pB (jJ x))):=by
 obtain⟨q0,q1,q2,q3,q4,q5,q6,q,s,ay,rfl,rfl,-,aL,aN,aS,aV,aZ,bg,ae,O,T⟩:=KU hx;have U:=ae.op3;clear hx;have hw:q4.size+q5.size+wtL (wtE d) q6≤1048576:=hl;have ah:q4.size≤2097152:=by omega
 have ai:q5.size≤2097152:=by omega
 clear hl hw;rw[←jd,←jc];obtain⟨R,X⟩:=nm (jg q0 q1 q2 q3 (jL q0 q1 q2 q3 q4 q5 q6.length) (pB (eG q1 q3)) (pB (dh q4)) (pB (dh q5)));rw[←X];have HR:=Kz X;clear X;obtain rfl:q0=8:=hk;skip;delta Qz;go_in;go_wp2_with fail;generalize I:((w.alloc (.cells #[.int .i64 8,.int .i64 q1,.int .i64 q2,.int .i64 q3,.string q4,.string q5,.slice q q6.length s] 115)).alloc (.cells #[.int .i64 8,.int .i64 0,.int .i64 0,.int .i64 0,.string ⟨#[]⟩,.string ⟨#[]⟩,.slice q q6.length s] 115))=B;have gB:Gr w B:=gb I;have vX:az B w.heap.size 115 [.int .i64 8,.int .i64 q1,.int .i64 q2,.int .i64 q3,.string q4,.string q5,.slice q q6.length s]:=by rw[←I];exact(az.new (A:=w) rfl).gr gd
 have vD:az B (w.heap.size+1) 115 [.int .i64 8,.int .i64 0,.int .i64 0,.int .i64 0,.string ⟨#[]⟩,.string ⟨#[]⟩,.slice q q6.length s]:=by rw[←I];exact az.new (by simp)
 have D:=Kz vX;have E:=Kz vD;have K:=Kz gB;clear I vX vD gB
 go_cut [4] (fun s4 wr=>s4=.int .i64 1∧uB w w.heap.size [.int .i64 8,.int .i64 q1,.int .i64 q2,.int .i64 q3,.string q4,.string q5,.slice q q6.length s] (w.heap.size+1) [.int .i64 8,.int .i64 0,.int .i64 0,.int .i64 0,.string q4,.string q5,.slice q q6.length s] wr)
 case first=>
  have J:=D.o;have H:=E.o;obtain⟨Y,x1,x2,x3,x4,x5,x6⟩:=J.c7;obtain⟨Z,y1,y2,y3,y4,y5,y6⟩:=H.c7;have zx:=blk Y;have zy:=blk Z;have fy:=fun k=>H.frozen k
  go_region
  all_goals
   go_wp2_with fail;go_meet;unfold uB;first|(refine⟨rfl,⟨?_,?_,?_⟩⟩;exact(Gr.setCell (p:=⟨w.heap.size+1,5,none⟩) (Gr.setCell (p:=⟨w.heap.size+1,4,none⟩) K.o (show w.heap.size≤w.heap.size+1 by omega) (.string q4)) (show w.heap.size≤w.heap.size+1 by omega) (.string q5)).drew;exact((az.ne (az.ne D.o (by omega)) (by omega)).gr (Gr.drew (Gr.refl _)));exact((az.set (az.set E.o 4 (.string q4)) 5 (.string q5)).gr (Gr.drew (Gr.refl _))))|(refine⟨rfl,⟨?_,?_,?_⟩⟩;exact(Gr.setCell (p:=⟨w.heap.size+1,4,none⟩) (Gr.setCell (p:=⟨w.heap.size+1,5,none⟩) K.o (show w.heap.size≤w.heap.size+1 by omega) (.string q5)) (show w.heap.size≤w.heap.size+1 by omega) (.string q4)).drew;exact((az.ne (az.ne D.o (by omega)) (by omega)).gr (Gr.drew (Gr.refl _)));exact((az.set (az.set E.o 5 (.string q5)) 4 (.string q4)).gr (Gr.drew (Gr.refl _))))
 case rest=>
  obtain⟨rfl,gD,J,H⟩:=hcut
  rename World=>W2
  have aj:=Kz gD;obtain⟨Y,x1,x2,x3,x4,x5,x6⟩:=J.c7;obtain⟨Z,y1,y2,y3,y4,y5,y6⟩:=H.c7;have zx:=blk Y;have zy:=blk Z;clear J H gD
  go_wp2_with (first|(go_at_call 101;refine(di _ _ _ _).mono ?_;rintro e w' ⟨rfl,rfl⟩)|(go_at_call 260;refine(dV _ _ _).mono ?_;rintro e w' ⟨rfl,x2,rfl⟩)|(go_at_call_of 261 q5;refine(bG _ ai _).mono ?_;rintro e w' ⟨rfl,x3,rfl⟩)|(go_at_call_of 261 q4;refine(bG _ ah _).mono ?_;rintro e w' ⟨rfl,x4,rfl⟩)|(go_at_call 262;refine(gI _ _ _ _ _ _ _ _ _ _ _ _ _ _ _ _ _ _ _).mono ?_;rintro e w' ⟨rfl,x5,rfl⟩))
  go_ways
  all_goals
   go_ret;refine⟨aa ?_,aj.o.trans gd⟩;rw[HR.o];clear HR O T U;unfold jg jL
   first|(simp_all [fO,eY,eD];done)|(rw[Bool.eq_iff_iff];simp only[fO,Bool.and_eq_true,Bool.or_eq_true,decide_eq_true_eq,beq_iff_eq,eD];simp_all [eY];(try constructor)<;>intro h<;>simp_all;done)|(simp_all [fO,eY,eD];intros;omega)|(have ho:=(dx.1 (show pB (eG q1 q3)=true by assumption)).1;have h4:q3≠4:=(by rintro rfl;simp_all);have au:decide (1≤q3)=true:=decide_eq_true ho.1;have ax:decide (q3≤3)=true:=decide_eq_true (by omega);rw[au,ax];rw[Bool.eq_iff_iff];simp only[fO,Bool.and_eq_true,Bool.or_eq_true,decide_eq_true_eq,beq_iff_eq,eD];simp_all [eY];(try constructor)<;>intro h<;>simp_all;done)
theorem D7(fp:List Nat)(cs:Array Value)(x:aA d)(w:World)(B:Rd.rd fp w cs.toList x)(D:ak x≤1048576)(q:¬(1≤x.1∧x.1≤8)):Qz 225 #[.agg cs] w (.bool (pB (jJ x))):=by
 obtain⟨q0,q1,q2,q3,q4,q5,q6,K,O,T,rfl,rfl,-,U,X,Y,Z,ae,ah,ai,E,H⟩:=KU B;clear B;have hw:q4.size+q5.size+wtL (wtE d) q6≤1048576:=D;clear D hw;rw[←jd,←jc];obtain⟨R,s⟩:=nm (jg q0 q1 q2 q3 (jL q0 q1 q2 q3 q4 q5 q6.length) (pB (eG q1 q3)) (pB (dh q4)) (pB (dh q5)));rw[←s];have I:=Kz s;clear s;have aj:(q0==1)=false:=by simp;rintro rfl;exact q ⟨by simp,by simp⟩
 have au:(q0==2)=false:=by simp;rintro rfl;exact q ⟨by simp,by simp⟩
 have ax:(q0==3)=false:=by simp;rintro rfl;exact q ⟨by simp,by simp⟩
 have ay:(q0==4)=false:=by simp;rintro rfl;exact q ⟨by simp,by simp⟩
 have aL:(q0==5)=false:=by simp;rintro rfl;exact q ⟨by simp,by simp⟩
 have aN:(q0==6)=false:=by simp;rintro rfl;exact q ⟨by simp,by simp⟩
 have aS:(q0==7)=false:=by simp;rintro rfl;exact q ⟨by simp,by simp⟩
 have aV:(q0==8)=false:=by simp;rintro rfl;exact q ⟨by simp,by simp⟩
 have J:=Kz q;clear q;delta Qz;go_in;go_wp2_with fail;go_ret;refine⟨aa ?_,gd⟩;rw[I.o];unfold jg;have:(decide (1≤q0)&&decide (q0≤8))=false:=by rw[Bool.eq_false_iff];intro h;rw[Bool.and_eq_true,decide_eq_true_iff,decide_eq_true_iff] at h;exact J.o h
 rw[this];rfl
theorem Bw(fp:List Nat)(cs:Array Value)(x:aA d)(w:World)(q:Rd.rd fp w cs.toList x)(s:ak x≤1048576):Qz 225 #[.agg cs] w (.bool (pB (jJ x))):=by
 by_cases h:1≤x.1∧x.1≤8
 ·have:x.1=1∨x.1=2∨x.1=3∨x.1=4∨x.1=5∨x.1=6∨x.1=7∨x.1=8:=by omega
  rcases this with h|h|h|h|h|h|h|h
  ·exact Dx fp cs x w q s h
  ·exact DF fp cs x w q s h
  ·exact DW fp cs x w q s h
  ·exact Ei fp cs x w q s h
  ·exact Ey fp cs x w q s h
  ·exact DX fp cs x w q s h
  ·exact DN fp cs x w q s h
  ·exact Es fp cs x w q s h
 ·exact D7 fp cs x w q s h
end Go.Proofs.YtdhighcpmcdmmaaGreat
