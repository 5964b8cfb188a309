/- Contracts and laws towards ReadsOf, part 27 of 54. No condition. -/
import Derived.Test.YtleafadpfeibfaaGreatRx22
import Derived.Test.YtleafadpfeibfaaGreatRx23
set_option maxHeartbeats 32000000
set_option maxRecDepth 10000
set_option linter.unusedVariables false
set_option linter.unusedSimpArgs false
namespace Go.Proofs.YtleafadpfeibfaaGreat
open Go.RowKit
open _root_.List (take_length)
variable{d:Nat}
theorem AQ:∀(d:Nat) (x:GE d),cZ d x≤wtE d x+1
 |0,x=>PEmpty.elim x
 |d+1,x=>by
  obtain⟨q0,q1,q2,q3,q4,q5,q6⟩:=(x:aA d)
  show 1+(q6.map (cZ d)).sum≤(q4.size+q5.size+wtL (wtE d) q6)+1
  have:∀xs:List (GE d),(xs.map (cZ d)).sum≤wtL (wtE d) xs:=by
   intro xs
   induction xs with
   |nil=>simp
   |cons y q h=>
    simp only[List.map_cons,wtL,List.sum_cons,List.length_cons] at h ⊢;have:=AQ d y;omega
  have:=this q6;omega
theorem Km(d:Nat)(q6:List (GE d)){k:Nat}(h:k<q6.length):1+((q6.take (k+1)).map (cZ d)).sum=1+((q6.take k).map (cZ d)).sum+cZ d q6[k]:=by rw[lI (cZ d) q6 h];omega
theorem Kv(d:Nat)(q6:List (GE d)){k:Nat}(h:k<q6.length):cZ d q6[k]≤1+(q6.map (cZ d)).sum:=by
 have h1:=lI (cZ d) q6 h;have q:=nu (cZ d) q6 (k+1);omega
theorem rC(hE:∀(fp:List Nat) (cs:Array Value) (x:GE d) (w:World) (X:Rd.rd fp w cs.toList x) (hl:cZ d x≤2097152),Calls Tryz.prog 276 #[.agg cs] w (r9 (cZ d x:Nat) w))
  (fp:List Nat) (cs:Array Value) (x:aA d) (w:World) (X:Rd.rd fp w cs.toList x) (ae:cZ (d+1) x≤2097152):Calls Tryz.prog 276 #[.agg cs] w (r9 (cZ (d+1) x:Nat) w):=by
 obtain⟨q0,q1,q2,q3,q4,q5,q6,K,O,bq,rfl,rfl,-,bB,bH,bL,bR,bX,cB,T,aZ,bg⟩:=KU X;have D:=T.op3;have ah:=Kz T;clear X;rw[wE] at ae ⊢;go_in;go_wp2_with fail;generalize h:w.alloc (.cells #[.int .i64 q0,.int .i64 q1,.int .i64 q2,.int .i64 q3,.string q4,.string q5,.slice K q6.length O] 165)=B;have gB:Gr w B:=gb h;have b0:B.cell? ⟨w.heap.size,0,none⟩=some (.int .i64 q0):=by rw[←h];exact aJ rfl rfl
 have b1:B.cell? ⟨w.heap.size,1,none⟩=some (.int .i64 q1):=by rw[←h];exact aJ rfl rfl
 have b2:B.cell? ⟨w.heap.size,2,none⟩=some (.int .i64 q2):=by rw[←h];exact aJ rfl rfl
 have b3:B.cell? ⟨w.heap.size,3,none⟩=some (.int .i64 q3):=by rw[←h];exact aJ rfl rfl
 have b4:B.cell? ⟨w.heap.size,4,none⟩=some (.string q4):=by rw[←h];exact aJ rfl rfl
 have b5:B.cell? ⟨w.heap.size,5,none⟩=some (.string q5):=by rw[←h];exact aJ rfl rfl
 have b6:B.cell? ⟨w.heap.size,6,none⟩=some (.slice K q6.length O):=by rw[←h];exact aJ rfl rfl
 have ai:=Kz gB;have HB:=Kz (And.intro b0 (And.intro b1 (And.intro b2 (And.intro b3 (And.intro b4 (And.intro b5 b6))))));clear h gB b0 b1 b2 b3 b4 b5 b6
 go_loopw [9,3] (fun Y s3 wr=>∃(k m:Nat),k≤q6.length∧Ky (m=1+((q6.take k).map (cZ d)).sum)∧Ky (Gr B wr)∧Y=.int .i64 k∧s3=.int .i64 m) (fun Y _ _=>q6.length - (intOf Y).toNat)
 case atStart=>exact⟨0,1,by omega,Kz (by simp),Kz (Gr.refl _),rfl,rfl⟩
 case round=>
  obtain⟨k,m,hk,I,Z,rfl,rfl⟩:=hrel
  rename World=>W1
  have cK:m≤2097152:=by have h1:=I.o;have h2:=nu (cZ d) q6 k;omega
  have y6:=Z.o.keep HB.o.2.2.2.2.2.2;have J:=Kz (ai.o.trans Z.o)
  by_cases q:k<q6.length
  ·have U:=Kz (Km d q6 q)
   have V:cZ d q6[k]≤2097152:=by have:=Kv d q6 q;omega
   have aj:=Kz V;have ak:m+cZ d q6[k]≤2097152:=by have h1:=I.o;have h2:=nu (cZ d) q6 (k+1);have h3:=U.o;omega
   obtain⟨r,hr⟩:=nm (cZ d q6[k]);rw[←hr] at V ak;have HR:=Kz hr;clear hr;have cO:IntKind.i64.wrap ((m:Int)+(r:Int))=(m:Int)+(r:Int):=IntWalk.i64_in _ (by omega)
   obtain⟨d1,rfl⟩:∃e,d=e+1:=by
    cases d with
    |zero=>exact PEmpty.elim (q6[k])
    |succ e=>exact⟨e,rfl⟩
   obtain⟨b,off,rfl,hb⟩:=D k q;obtain⟨p0,p1,p2,p3,p4,p5,p6,dB,dS,dV,fe,au,ax,-,-,-,-,-,-,-,-,-,z0,z1,z2,z3,z4,z5,z6,zb⟩:=Lc ah.o q J.o;have k0:(0:Int)≤(k:Int):=by omega
   have k1:(k:Int)<(q6.length:Int):=by omega
   have iw:=zI1 k (by omega);clear D;go_wp2_with fail;refine(hE _ _ q6[k] _ (Rd.gr (by rw[←au.o];exact ax.o) (tg J)) aj.o).mono ?_;rintro e w' ⟨rfl,x2,rfl⟩;rw[←HR.o];go_wp2_with fail;refine⟨⟨k+1,m+r,by omega,Kz (by rw[U.o,←HR.o];have:=I.o;omega),Kz (tg Z),by go_num,?_⟩,by simp[intOf];omega⟩
   first|(go_num;done)|(congr 1;omega)
  ·have ay:k=q6.length:=by omega
   subst ay;rw[take_length] at I;go_wp2_with fail;go_ret;exact⟨aC (by rw[←I.o];try omega),J.o⟩
theorem qj:(d:Nat)→∀(fp:List Nat) (cs:Array Value) (x:GE d) (w:World) (h:Rd.rd fp w cs.toList x) (q:cZ d x≤2097152),Calls Tryz.prog 276 #[.agg cs] w (r9 (cZ d x:Nat) w)
 |0=>by intro fp cs x;exact PEmpty.elim x
 |d+1=>rC (qj d)
theorem rY(hE:∀(fp:List Nat) (cs:Array Value) (x:GE d) (w:World) (X:Rd.rd fp w cs.toList x) (hl:iP d x≤2097152),Calls Tryz.prog 277 #[.agg cs] w (r9 (iP d x:Nat) w))
  (fp:List Nat) (cs:Array Value) (x:aA d) (w:World) (X:Rd.rd fp w cs.toList x) (ae:iP (d+1) x≤2097152):Calls Tryz.prog 277 #[.agg cs] w (r9 (iP (d+1) x:Nat) w):=by
 obtain⟨q0,q1,q2,q3,q4,q5,q6,K,O,bq,rfl,rfl,-,bB,bH,bL,bR,bX,cB,T,aZ,bg⟩:=KU X;have D:=T.op3;have ah:=Kz T;clear X;rw[GJ] at ae ⊢;go_in;go_wp2_with fail;generalize h:w.alloc (.cells #[.int .i64 q0,.int .i64 q1,.int .i64 q2,.int .i64 q3,.string q4,.string q5,.slice K q6.length O] 165)=B;have gB:Gr w B:=gb h;have b0:B.cell? ⟨w.heap.size,0,none⟩=some (.int .i64 q0):=by rw[←h];exact aJ rfl rfl
 have b1:B.cell? ⟨w.heap.size,1,none⟩=some (.int .i64 q1):=by rw[←h];exact aJ rfl rfl
 have b2:B.cell? ⟨w.heap.size,2,none⟩=some (.int .i64 q2):=by rw[←h];exact aJ rfl rfl
 have b3:B.cell? ⟨w.heap.size,3,none⟩=some (.int .i64 q3):=by rw[←h];exact aJ rfl rfl
 have b4:B.cell? ⟨w.heap.size,4,none⟩=some (.string q4):=by rw[←h];exact aJ rfl rfl
 have b5:B.cell? ⟨w.heap.size,5,none⟩=some (.string q5):=by rw[←h];exact aJ rfl rfl
 have b6:B.cell? ⟨w.heap.size,6,none⟩=some (.slice K q6.length O):=by rw[←h];exact aJ rfl rfl
 have ai:=Kz gB;have HB:=Kz (And.intro b0 (And.intro b1 (And.intro b2 (And.intro b3 (And.intro b4 (And.intro b5 b6))))));clear h gB b0 b1 b2 b3 b4 b5 b6
 go_loopw [9,3] (fun Y s3 wr=>∃(k m:Nat),k≤q6.length∧Ky (m=((q6.take k).map (iP d)).foldl max 0)∧Ky (Gr B wr)∧Y=.int .i64 k∧s3=.int .i64 m) (fun Y _ _=>q6.length - (intOf Y).toNat)
 case atStart=>exact⟨0,0,by omega,Kz (by simp),Kz (Gr.refl _),rfl,rfl⟩
 case round=>
  obtain⟨k,m,hk,I,Z,rfl,rfl⟩:=hrel
  rename World=>W1
  have cK:m≤2097152:=by have h1:=I.o;have h2:=sU (iP d) q6 k;omega
  have y6:=Z.o.keep HB.o.2.2.2.2.2.2;have J:=Kz (ai.o.trans Z.o)
  by_cases q:k<q6.length
  ·have U:=Kz (BS q)
   have V:iP d q6[k]≤2097152:=by have:=EU (iP d) q6 q;omega
   have aj:=Kz V;have ak:iP d q6[k]≤2097152:=by have h1:=I.o;have h2:=sU (iP d) q6 (k+1);have h3:=U.o;omega
   obtain⟨r,hr⟩:=nm (iP d q6[k]);rw[←hr] at V ak;have HR:=Kz hr;clear hr;have cO:IntKind.i64.wrap ((m:Int)+(r:Int))=(m:Int)+(r:Int):=IntWalk.i64_in _ (by omega)
   obtain⟨d1,rfl⟩:∃e,d=e+1:=by
    cases d with
    |zero=>exact PEmpty.elim (q6[k])
    |succ e=>exact⟨e,rfl⟩
   obtain⟨b,off,rfl,hb⟩:=D k q;obtain⟨p0,p1,p2,p3,p4,p5,p6,dB,dS,dV,fe,au,ax,-,-,-,-,-,-,-,-,-,z0,z1,z2,z3,z4,z5,z6,zb⟩:=Lc ah.o q J.o;have k0:(0:Int)≤(k:Int):=by omega
   have k1:(k:Int)<(q6.length:Int):=by omega
   have iw:=zI1 k (by omega);clear D;go_wp2_with fail;refine(hE _ _ q6[k] _ (Rd.gr (by rw[←au.o];exact ax.o) (tg J)) aj.o).mono ?_;rintro e w' ⟨rfl,x2,rfl⟩;rw[←HR.o];go_wp2_with fail;refine⟨⟨k+1,max m r,by omega,Kz (by rw[U.o,←HR.o];have:=I.o;omega),Kz (tg Z),by go_num,?_⟩,by simp[intOf];omega⟩
   first|(go_num;done)|(congr 1;omega)
  ·have ay:k=q6.length:=by omega
   subst ay;rw[take_length] at I;have fu:=zI1 m (by omega);go_wp2_with fail;go_ret;exact⟨aC (by rw[←I.o];try omega),J.o⟩
theorem qh:(d:Nat)→∀(fp:List Nat) (cs:Array Value) (x:GE d) (w:World) (h:Rd.rd fp w cs.toList x) (q:iP d x≤2097152),Calls Tryz.prog 277 #[.agg cs] w (r9 (iP d x:Nat) w)
 |0=>by intro fp cs x;exact PEmpty.elim x
 |d+1=>rY (qh d)
def fO(q0 q1 q2 q3:Int)(q4 q5:ByteArray)(h q B D:Int)(I J:ByteArray):Bool:=decide (q0=h)&&(decide (q1=q)&&(decide (q2=B)&&(decide (q3=D)&&(decide (q4=I)&&decide (q5=J)))))
theorem gI(q0 q1 q2 q3:Int)(q4 q5:ByteArray)(T:Option Addr)(U V:Nat)(h q B D:Int)(I J:ByteArray)(X:Option Addr)(Y Z:Nat)(w:World):
  Qz 294 #[.agg #[.int .i64 q0,.int .i64 q1,.int .i64 q2,.int .i64 q3,.string q4,.string q5,.slice T U V],.agg #[.int .i64 h,.int .i64 q,.int .i64 B,.int .i64 D,.string I,.string J,.slice X Y Z]] w (.bool (fO q0 q1 q2 q3 q4 q5 h q B D I J)):=by
 obtain⟨R,K⟩:=nm (fO q0 q1 q2 q3 q4 q5 h q B D I J);rw[←K];have HR:=Kz K;clear K;delta Qz;go_in;go_wp2_with fail
 ·go_ret
  have t0:q0=h:=by assumption
  have t1:q1=q:=by assumption
  have t2:q2=B:=by assumption
  have t3:q3=D:=by assumption
  have t4:q4.toList=I.toList:=by assumption
  refine⟨aa ?_,gd⟩;rw[HR.o];unfold fO;rw[decide_eq_true t0,decide_eq_true t1,decide_eq_true t2,decide_eq_true t3,decide_eq_true (str_inj t4)]
  by_cases O:q5=J
  ·rw[O];simp
  ·rw[beq_eq_false_iff_ne.2 fun e=>O (str_inj e),decide_eq_false O];rfl
 all_goals
 ·go_ret
  refine⟨aa ?_,gd⟩;rw[HR.o];unfold fO
  symm
  rw[Bool.eq_false_iff];simp only[ne_eq,Bool.and_eq_true,decide_eq_true_eq];rintro⟨e0,e1,e2,e3,e4,-⟩
  first
  |exact absurd (congrArg ByteArray.toList e4) ‹_›
  |exact absurd e3 ‹_›
  |exact absurd e2 ‹_›
  |exact absurd e1 ‹_›
  |exact absurd e0 ‹_›
theorem eD{s:ByteArray}:(s=⟨#[]⟩)=(s.toList.isEmpty=true):=propext Ai.symm
def uB(W:World)(a:Nat)(us:List Value)(b:Nat)(vs:List Value)(wr:World):Prop:=Gr W wr∧az wr a 165 us∧az wr b 165 vs
theorem DF(fp:List Nat)(cs:Array Value)(x:aA d)(w:World)(D:Rd.rd fp w cs.toList x)(I:aS x≤1048576)(hk:x.1=2):Qz 278 #[.agg cs] w (.bool (pB (jJ x))):=by
 obtain⟨q0,q1,q2,q3,q4,q5,q6,Y,Z,ae,rfl,rfl,-,ah,ai,aj,ak,au,ax,J,-,-⟩:=KU D;have q:=J.op3;clear D;have hw:q4.size+q5.size+wtL (wtE d) q6≤1048576:=I;have K:q4.size≤2097152:=by omega
 have O:q5.size≤2097152:=by omega
 clear I hw;rw[←jd,←jc];obtain⟨R,B⟩:=nm (jg q0 q1 q2 q3 (jL q0 q1 q2 q3 q4 q5 q6.length) (pB (eG q1 q3)) (pB (dh q4)) (pB (dh q5)));rw[←B];have T:=Kz B;clear B;obtain rfl:q0=2:=hk;skip;delta Qz;go_in
 go_wp2_with (first|(go_at_call 137;refine(di _ _ _ _).mono ?_;rintro e w' ⟨rfl,rfl⟩)|(go_at_call 293;refine(fV _ _ _).mono ?_;rintro e w' ⟨rfl,x2,rfl⟩)|(go_at_call_of 240 q5;refine(bG _ O _).mono ?_;rintro e w' ⟨rfl,x3,rfl⟩)|(go_at_call_of 240 q4;refine(bG _ K _).mono ?_;rintro e w' ⟨rfl,x4,rfl⟩)|(go_at_call 294;refine(gI _ _ _ _ _ _ _ _ _ _ _ _ _ _ _ _ _ _ _).mono ?_;rintro e w' ⟨rfl,x5,rfl⟩))
 go_ways
 all_goals
  go_ret;refine⟨aa ?_,gd⟩;rw[T.o];clear T q;unfold jg jL
  first|(simp_all [fO,eY,eD];done)|(rw[Bool.eq_iff_iff];simp only[fO,Bool.and_eq_true,Bool.or_eq_true,decide_eq_true_eq,beq_iff_eq,eD];simp_all [eY];(try constructor)<;>intro h<;>simp_all;done)|(simp_all [fO,eY,eD];intros;omega)|(have X:=(dx.1 (show pB (eG q1 q3)=true by assumption)).1;have h4:q3≠4:=(by rintro rfl;simp_all);have U:decide (1≤q3)=true:=decide_eq_true X.1;have V:decide (q3≤3)=true:=decide_eq_true (by omega);rw[U,V];rw[Bool.eq_iff_iff];simp only[fO,Bool.and_eq_true,Bool.or_eq_true,decide_eq_true_eq,beq_iff_eq,eD];simp_all [eY];(try constructor)<;>intro h<;>simp_all;done)
theorem Ey(fp:List Nat)(cs:Array Value)(x:aA d)(w:World)(D:Rd.rd fp w cs.toList x)(I:aS x≤1048576)(hk:x.1=5):Qz 278 #[.agg cs] w (.bool (pB (jJ x))):=by
 obtain⟨q0,q1,q2,q3,q4,q5,q6,Y,Z,ae,rfl,rfl,-,ah,ai,aj,ak,au,ax,J,-,-⟩:=KU D;have q:=J.op3;clear D;have hw:q4.size+q5.size+wtL (wtE d) q6≤1048576:=I;have K:q4.size≤2097152:=by omega
 have O:q5.size≤2097152:=by omega
 clear I hw;rw[←jd,←jc];obtain⟨R,B⟩:=nm (jg q0 q1 q2 q3 (jL q0 q1 q2 q3 q4 q5 q6.length) (pB (eG q1 q3)) (pB (dh q4)) (pB (dh q5)));rw[←B];have T:=Kz B;clear B;obtain rfl:q0=5:=hk;skip;delta Qz;go_in
 go_wp2_with (first|(go_at_call 137;refine(di _ _ _ _).mono ?_;rintro e w' ⟨rfl,rfl⟩)|(go_at_call 293;refine(fV _ _ _).mono ?_;rintro e w' ⟨rfl,x2,rfl⟩)|(go_at_call_of 240 q5;refine(bG _ O _).mono ?_;rintro e w' ⟨rfl,x3,rfl⟩)|(go_at_call_of 240 q4;refine(bG _ K _).mono ?_;rintro e w' ⟨rfl,x4,rfl⟩)|(go_at_call 294;refine(gI _ _ _ _ _ _ _ _ _ _ _ _ _ _ _ _ _ _ _).mono ?_;rintro e w' ⟨rfl,x5,rfl⟩))
 go_ways
 all_goals
  go_ret;refine⟨aa ?_,gd⟩;rw[T.o];clear T q;unfold jg jL
  first|(simp_all [fO,eY,eD];done)|(rw[Bool.eq_iff_iff];simp only[fO,Bool.and_eq_true,Bool.or_eq_true,decide_eq_true_eq,beq_iff_eq,eD];simp_all [eY];(try constructor)<;>intro h<;>simp_all;done)|(simp_all [fO,eY,eD];intros;omega)|(have X:=(dx.1 (show pB (eG q1 q3)=true by assumption)).1;have h4:q3≠4:=(by rintro rfl;simp_all);have U:decide (1≤q3)=true:=decide_eq_true X.1;have V:decide (q3≤3)=true:=decide_eq_true (by omega);rw[U,V];rw[Bool.eq_iff_iff];simp only[fO,Bool.and_eq_true,Bool.or_eq_true,decide_eq_true_eq,beq_iff_eq,eD];simp_all [eY];(try constructor)<;>intro h<;>simp_all;done)
theorem DN(fp:List Nat)(cs:Array Value)(x:aA d)(w:World)(D:Rd.rd fp w cs.toList x)(I:aS x≤1048576)(hk:x.1=7):Qz 278 #[.agg cs] w (.bool (pB (jJ x))):=by
 obtain⟨q0,q1,q2,q3,q4,q5,q6,Y,Z,ae,rfl,rfl,-,ah,ai,aj,ak,au,ax,J,-,-⟩:=KU D;have q:=J.op3;clear D;have hw:q4.size+q5.size+wtL (wtE d) q6≤1048576:=I;have K:q4.size≤2097152:=by omega
 have O:q5.size≤2097152:=by omega
 clear I hw;rw[←jd,←jc];obtain⟨R,B⟩:=nm (jg q0 q1 q2 q3 (jL q0 q1 q2 q3 q4 q5 q6.length) (pB (eG q1 q3)) (pB (dh q4)) (pB (dh q5)));rw[←B];have T:=Kz B;clear B;obtain rfl:q0=7:=hk;skip;delta Qz;go_in
 go_wp2_with (first|(go_at_call 137;refine(di _ _ _ _).mono ?_;rintro e w' ⟨rfl,rfl⟩)|(go_at_call 293;refine(fV _ _ _).mono ?_;rintro e w' ⟨rfl,x2,rfl⟩)|(go_at_call_of 240 q5;refine(bG _ O _).mono ?_;rintro e w' ⟨rfl,x3,rfl⟩)|(go_at_call_of 240 q4;refine(bG _ K _).mono ?_;rintro e w' ⟨rfl,x4,rfl⟩)|(go_at_call 294;refine(gI _ _ _ _ _ _ _ _ _ _ _ _ _ _ _ _ _ _ _).mono ?_;rintro e w' ⟨rfl,x5,rfl⟩))
 go_ways
 all_goals
  go_ret;refine⟨aa ?_,gd⟩;rw[T.o];clear T q;unfold jg jL
  first|(simp_all [fO,eY,eD];done)|(rw[Bool.eq_iff_iff];simp only[fO,Bool.and_eq_true,Bool.or_eq_true,decide_eq_true_eq,beq_iff_eq,eD];simp_all [eY];(try constructor)<;>intro h<;>simp_all;done)|(simp_all [fO,eY,eD];intros;omega)|(have X:=(dx.1 (show pB (eG q1 q3)=true by assumption)).1;have h4:q3≠4:=(by rintro rfl;simp_all);have U:decide (1≤q3)=true:=decide_eq_true X.1;have V:decide (q3≤3)=true:=decide_eq_true (by omega);rw[U,V];rw[Bool.eq_iff_iff];simp only[fO,Bool.and_eq_true,Bool.or_eq_true,decide_eq_true_eq,beq_iff_eq,eD];simp_all [eY];(try constructor)<;>intro h<;>simp_all;done)
theorem DX(fp:List Nat)(cs:Array Value)(x:aA d)(w:World)(D:Rd.rd fp w cs.toList x)(I:aS x≤1048576)(hk:x.1=6):Qz 278 #[.agg cs] w (.bool (pB (jJ x))):=by
 obtain⟨q0,q1,q2,q3,q4,q5,q6,Y,Z,ae,rfl,rfl,-,ah,ai,aj,ak,au,ax,J,-,-⟩:=KU D;have q:=J.op3;clear D;have hw:q4.size+q5.size+wtL (wtE d) q6≤1048576:=I;have K:q4.size≤2097152:=by omega
 have O:q5.size≤2097152:=by omega
 clear I hw;rw[←jd,←jc];obtain⟨R,B⟩:=nm (jg q0 q1 q2 q3 (jL q0 q1 q2 q3 q4 q5 q6.length) (pB (eG q1 q3)) (pB (dh q4)) (pB (dh q5)));rw[←B];have T:=Kz B;clear B;obtain rfl:q0=6:=hk;skip;delta Qz;go_in
 go_wp2_with (first|(go_at_call 137;refine(di _ _ _ _).mono ?_;rintro e w' ⟨rfl,rfl⟩)|(go_at_call 293;refine(fV _ _ _).mono ?_;rintro e w' ⟨rfl,x2,rfl⟩)|(go_at_call_of 240 q5;refine(bG _ O _).mono ?_;rintro e w' ⟨rfl,x3,rfl⟩)|(go_at_call_of 240 q4;refine(bG _ K _).mono ?_;rintro e w' ⟨rfl,x4,rfl⟩)|(go_at_call 294;refine(gI _ _ _ _ _ _ _ _ _ _ _ _ _ _ _ _ _ _ _).mono ?_;rintro e w' ⟨rfl,x5,rfl⟩))
 go_ways
 all_goals
  go_ret;refine⟨aa ?_,gd⟩;rw[T.o];clear T q;unfold jg jL
  first|(simp_all [fO,eY,eD];done)|(rw[Bool.eq_iff_iff];simp only[fO,Bool.and_eq_true,Bool.or_eq_true,decide_eq_true_eq,beq_iff_eq,eD];simp_all [eY];(try constructor)<;>intro h<;>simp_all;done)|(simp_all [fO,eY,eD];intros;omega)|(have X:=(dx.1 (show pB (eG q1 q3)=true by assumption)).1;have h4:q3≠4:=(by rintro rfl;simp_all);have U:decide (1≤q3)=true:=decide_eq_true X.1;have V:decide (q3≤3)=true:=decide_eq_true (by omega);rw[U,V];rw[Bool.eq_iff_iff];simp only[fO,Bool.and_eq_true,Bool.or_eq_true,decide_eq_true_eq,beq_iff_eq,eD];simp_all [eY];(try constructor)<;>intro h<;>simp_all;done)
theorem Ei(fp:List Nat)(cs:Array Value)(x:aA d)(w:World)(X:Rd.rd fp w cs.toList x)(Y:aS x≤1048576)(hk:x.1=4):Qz 278 #[.agg cs] w (.bool (pB (jJ x))):=by
 obtain⟨q0,q1,q2,q3,q4,q5,q6,q,D,ax,rfl,rfl,-,ay,aZ,bg,bq,bB,bH,Z,-,-⟩:=KU X;have U:=Z.op3;clear X;have hw:q4.size+q5.size+wtL (wtE d) q6≤1048576:=Y;have ae:q4.size≤2097152:=by omega
 have ah:q5.size≤2097152:=by omega
 clear Y hw;rw[←jd,←jc];obtain⟨R,V⟩:=nm (jg q0 q1 q2 q3 (jL q0 q1 q2 q3 q4 q5 q6.length) (pB (eG q1 q3)) (pB (dh q4)) (pB (dh q5)));rw[←V];have HR:=Kz V;clear V;obtain rfl:q0=4:=hk;skip;delta Qz;go_in
 go_upto_region 14 with fail
 generalize J:((w.alloc (.cells #[.int .i64 4,.int .i64 q1,.int .i64 q2,.int .i64 q3,.string q4,.string q5,.slice q q6.length D] 165)).alloc (.cells #[.int .i64 4,.int .i64 0,.int .i64 0,.int .i64 0,.string ⟨#[]⟩,.string ⟨#[]⟩,.slice q q6.length D] 165))=B;have gB:Gr w B:=gb J;have vX:az B w.heap.size 165 [.int .i64 4,.int .i64 q1,.int .i64 q2,.int .i64 q3,.string q4,.string q5,.slice q q6.length D]:=by rw[←J];exact(az.new (A:=w) rfl).gr gd
 have vD:az B (w.heap.size+1) 165 [.int .i64 4,.int .i64 0,.int .i64 0,.int .i64 0,.string ⟨#[]⟩,.string ⟨#[]⟩,.slice q q6.length D]:=by rw[←J];exact az.new (by simp)
 have O:=Kz vX;have T:=Kz vD;have ai:=Kz gB;clear J vX vD gB
 go_cut [4] (fun s4 wr=>s4=.int .i64 2∧uB w w.heap.size [.int .i64 4,.int .i64 q1,.int .i64 q2,.int .i64 q3,.string q4,.string q5,.slice q q6.length D] (w.heap.size+1) [.int .i64 4,.int .i64 q1,.int .i64 0,.int .i64 0,.string ⟨#[]⟩,.string ⟨#[]⟩,.slice q q6.length D] wr)
 case first=>
  have K:=O.o;have I:=T.o;obtain⟨x0,x1,x2,x3,x4,x5,x6⟩:=K.c7;obtain⟨y0,y1,y2,y3,y4,y5,y6⟩:=I.c7;have fy:=fun k=>I.frozen k
  go_wp2_with fail;go_meet;unfold uB;first|(refine⟨rfl,⟨?_,?_,?_⟩⟩;exact(Gr.setCell (p:=⟨w.heap.size+1,1,none⟩) ai.o (show w.heap.size≤w.heap.size+1 by omega) (.int .i64 q1));exact(az.ne O.o (by omega));exact(az.set T.o 1 (.int .i64 q1)))
 case rest=>
  obtain⟨rfl,gD,K,I⟩:=hcut
  rename World=>W2
  have aj:=Kz gD;obtain⟨x0,x1,x2,x3,x4,x5,x6⟩:=K.c7;obtain⟨y0,y1,y2,y3,y4,y5,y6⟩:=I.c7;clear K I gD
  go_wp2_with (first|(go_at_call 137;refine(di _ _ _ _).mono ?_;rintro e w' ⟨rfl,rfl⟩)|(go_at_call 293;refine(fV _ _ _).mono ?_;rintro e w' ⟨rfl,x2,rfl⟩)|(go_at_call_of 240 q5;refine(bG _ ah _).mono ?_;rintro e w' ⟨rfl,x3,rfl⟩)|(go_at_call_of 240 q4;refine(bG _ ae _).mono ?_;rintro e w' ⟨rfl,x4,rfl⟩)|(go_at_call 294;refine(gI _ _ _ _ _ _ _ _ _ _ _ _ _ _ _ _ _ _ _).mono ?_;rintro e w' ⟨rfl,x5,rfl⟩))
  go_ways
  all_goals
   go_ret;refine⟨aa ?_,aj.o.trans gd⟩;rw[HR.o];clear HR U;unfold jg jL
   first|(simp_all [fO,eY,eD];done)|(rw[Bool.eq_iff_iff];simp only[fO,Bool.and_eq_true,Bool.or_eq_true,decide_eq_true_eq,beq_iff_eq,eD];simp_all [eY];(try constructor)<;>intro h<;>simp_all;done)|(simp_all [fO,eY,eD];intros;omega)|(have ho:=(dx.1 (show pB (eG q1 q3)=true by assumption)).1;have h4:q3≠4:=(by rintro rfl;simp_all);have ak:decide (1≤q3)=true:=decide_eq_true ho.1;have au:decide (q3≤3)=true:=decide_eq_true (by omega);rw[ak,au];rw[Bool.eq_iff_iff];simp only[fO,Bool.and_eq_true,Bool.or_eq_true,decide_eq_true_eq,beq_iff_eq,eD];simp_all [eY];(try constructor)<;>intro h<;>simp_all;done)
theorem Dx(fp:List Nat)(cs:Array Value)(x:aA d)(w:World)(hx:Rd.rd fp w cs.toList x)(hl:aS x≤1048576)(hk:x.1=1):Qz 278 #[.agg cs] w (.bool (pB (jJ x))):=by
 obtain⟨q0,q1,q2,q3,q4,q5,q6,q,D,ax,rfl,rfl,-,ay,aZ,bg,bq,bB,bH,ae,-,-⟩:=KU hx;have V:=ae.op3;clear hx;have hw:q4.size+q5.size+wtL (wtE d) q6≤1048576:=hl;have ah:q4.size≤2097152:=by omega
 have ai:q5.size≤2097152:=by omega
 clear hl hw;rw[←jd,←jc];obtain⟨R,X⟩:=nm (jg q0 q1 q2 q3 (jL q0 q1 q2 q3 q4 q5 q6.length) (pB (eG q1 q3)) (pB (dh q4)) (pB (dh q5)));rw[←X];have HR:=Kz X;clear X;obtain rfl:q0=1:=hk;skip;delta Qz;go_in;go_wp2_with fail;generalize O:((w.alloc (.cells #[.int .i64 1,.int .i64 q1,.int .i64 q2,.int .i64 q3,.string q4,.string q5,.slice q q6.length D] 165)).alloc (.cells #[.int .i64 1,.int .i64 0,.int .i64 0,.int .i64 0,.string ⟨#[]⟩,.string ⟨#[]⟩,.slice q q6.length D] 165))=B;have gB:Gr w B:=gb O;have vX:az B w.heap.size 165 [.int .i64 1,.int .i64 q1,.int .i64 q2,.int .i64 q3,.string q4,.string q5,.slice q q6.length D]:=by rw[←O];exact(az.new (A:=w) rfl).gr gd
 have vD:az B (w.heap.size+1) 165 [.int .i64 1,.int .i64 0,.int .i64 0,.int .i64 0,.string ⟨#[]⟩,.string ⟨#[]⟩,.slice q q6.length D]:=by rw[←O];exact az.new (by simp)
 have I:=Kz vX;have J:=Kz vD;have U:=Kz gB;clear O vX vD gB
 go_cut [] (fun wr=>uB w w.heap.size [.int .i64 1,.int .i64 q1,.int .i64 q2,.int .i64 q3,.string q4,.string q5,.slice q q6.length D] (w.heap.size+1) [.int .i64 1,.int .i64 q1,.int .i64 0,.int .i64 q3,.string ⟨#[]⟩,.string ⟨#[]⟩,.slice q q6.length D] wr)
 case first=>
  have T:=I.o;have K:=J.o;obtain⟨Y,x1,x2,x3,x4,x5,x6⟩:=T.c7;obtain⟨Z,y1,y2,y3,y4,y5,y6⟩:=K.c7;have zx:=blk Y;have zy:=blk Z;have fy:=fun k=>K.frozen k
  go_region
  all_goals
   go_wp2_with fail;go_meet;unfold uB;first|(refine⟨?_,?_,?_⟩;exact(Gr.setCell (p:=⟨w.heap.size+1,3,none⟩) (Gr.setCell (p:=⟨w.heap.size+1,1,none⟩) U.o (show w.heap.size≤w.heap.size+1 by omega) (.int .i64 q1)) (show w.heap.size≤w.heap.size+1 by omega) (.int .i64 q3)).drew;exact((az.ne (az.ne I.o (by omega)) (by omega)).gr (Gr.drew (Gr.refl _)));exact((az.set (az.set J.o 1 (.int .i64 q1)) 3 (.int .i64 q3)).gr (Gr.drew (Gr.refl _))))|(refine⟨?_,?_,?_⟩;exact(Gr.setCell (p:=⟨w.heap.size+1,1,none⟩) (Gr.setCell (p:=⟨w.heap.size+1,3,none⟩) U.o (show w.heap.size≤w.heap.size+1 by omega) (.int .i64 q3)) (show w.heap.size≤w.heap.size+1 by omega) (.int .i64 q1)).drew;exact((az.ne (az.ne I.o (by omega)) (by omega)).gr (Gr.drew (Gr.refl _)));exact((az.set (az.set J.o 3 (.int .i64 q3)) 1 (.int .i64 q1)).gr (Gr.drew (Gr.refl _))))
 case rest=>
  obtain⟨gD,T,K⟩:=hcut
  rename World=>W2
  have aj:=Kz gD;obtain⟨Y,x1,x2,x3,x4,x5,x6⟩:=T.c7;obtain⟨Z,y1,y2,y3,y4,y5,y6⟩:=K.c7;have zx:=blk Y;have zy:=blk Z;clear T K gD
  go_wp2_with (first|(go_at_call 137;refine(di _ _ _ _).mono ?_;rintro e w' ⟨rfl,rfl⟩)|(go_at_call 293;refine(fV _ _ _).mono ?_;rintro e w' ⟨rfl,x2,rfl⟩)|(go_at_call_of 240 q5;refine(bG _ ai _).mono ?_;rintro e w' ⟨rfl,x3,rfl⟩)|(go_at_call_of 240 q4;refine(bG _ ah _).mono ?_;rintro e w' ⟨rfl,x4,rfl⟩)|(go_at_call 294;refine(gI _ _ _ _ _ _ _ _ _ _ _ _ _ _ _ _ _ _ _).mono ?_;rintro e w' ⟨rfl,x5,rfl⟩))
  go_ways
  all_goals
   go_ret;refine⟨aa ?_,aj.o.trans gd⟩;rw[HR.o];clear HR V;unfold jg jL
   first|(simp_all [fO,eY,eD];done)|(rw[Bool.eq_iff_iff];simp only[fO,Bool.and_eq_true,Bool.or_eq_true,decide_eq_true_eq,beq_iff_eq,eD];simp_all [eY];(try constructor)<;>intro h<;>simp_all;done)|(simp_all [fO,eY,eD];intros;omega)|(have ho:=(dx.1 (show pB (eG q1 q3)=true by assumption)).1;have h4:q3≠4:=(by rintro rfl;simp_all);have ak:decide (1≤q3)=true:=decide_eq_true ho.1;have au:decide (q3≤3)=true:=decide_eq_true (by omega);rw[ak,au];rw[Bool.eq_iff_iff];simp only[fO,Bool.and_eq_true,Bool.or_eq_true,decide_eq_true_eq,beq_iff_eq,eD];simp_all [eY];(try constructor)<;>intro h<;>simp_all;done)
theorem DW(fp:List Nat)(cs:Array Value)(x:aA d)(w:World)(hx:Rd.rd fp w cs.toList x)(hl:aS x≤1048576)(hk:x.1=3):Qz 278 #[.agg cs] w (.bool (pB (jJ x))):=by
 obtain⟨q0,q1,q2,q3,q4,q5,q6,q,D,ax,rfl,rfl,-,ay,aZ,bg,bq,bB,bH,ae,-,-⟩:=KU hx;have V:=ae.op3;clear hx;have hw:q4.size+q5.size+wtL (wtE d) q6≤1048576:=hl;have ah:q4.size≤2097152:=by omega
 have ai:q5.size≤2097152:=by omega
 clear hl hw;rw[←jd,←jc];obtain⟨R,X⟩:=nm (jg q0 q1 q2 q3 (jL q0 q1 q2 q3 q4 q5 q6.length) (pB (eG q1 q3)) (pB (dh q4)) (pB (dh q5)));rw[←X];have HR:=Kz X;clear X;obtain rfl:q0=3:=hk;skip;delta Qz;go_in;go_wp2_with fail;generalize O:((w.alloc (.cells #[.int .i64 3,.int .i64 q1,.int .i64 q2,.int .i64 q3,.string q4,.string q5,.slice q q6.length D] 165)).alloc (.cells #[.int .i64 3,.int .i64 0,.int .i64 0,.int .i64 0,.string ⟨#[]⟩,.string ⟨#[]⟩,.slice q q6.length D] 165))=B;have gB:Gr w B:=gb O;have vX:az B w.heap.size 165 [.int .i64 3,.int .i64 q1,.int .i64 q2,.int .i64 q3,.string q4,.string q5,.slice q q6.length D]:=by rw[←O];exact(az.new (A:=w) rfl).gr gd
 have vD:az B (w.heap.size+1) 165 [.int .i64 3,.int .i64 0,.int .i64 0,.int .i64 0,.string ⟨#[]⟩,.string ⟨#[]⟩,.slice q q6.length D]:=by rw[←O];exact az.new (by simp)
 have I:=Kz vX;have J:=Kz vD;have U:=Kz gB;clear O vX vD gB
 go_cut [] (fun wr=>uB w w.heap.size [.int .i64 3,.int .i64 q1,.int .i64 q2,.int .i64 q3,.string q4,.string q5,.slice q q6.length D] (w.heap.size+1) [.int .i64 3,.int .i64 0,.int .i64 q2,.int .i64 0,.string ⟨#[]⟩,.string q5,.slice q q6.length D] wr)
 case first=>
  have T:=I.o;have K:=J.o;obtain⟨Y,x1,x2,x3,x4,x5,x6⟩:=T.c7;obtain⟨Z,y1,y2,y3,y4,y5,y6⟩:=K.c7;have zx:=blk Y;have zy:=blk Z;have fy:=fun k=>K.frozen k
  go_region
  all_goals
   go_wp2_with fail;go_meet;unfold uB;first|(refine⟨?_,?_,?_⟩;exact(Gr.setCell (p:=⟨w.heap.size+1,5,none⟩) (Gr.setCell (p:=⟨w.heap.size+1,2,none⟩) U.o (show w.heap.size≤w.heap.size+1 by omega) (.int .i64 q2)) (show w.heap.size≤w.heap.size+1 by omega) (.string q5)).drew;exact((az.ne (az.ne I.o (by omega)) (by omega)).gr (Gr.drew (Gr.refl _)));exact((az.set (az.set J.o 2 (.int .i64 q2)) 5 (.string q5)).gr (Gr.drew (Gr.refl _))))|(refine⟨?_,?_,?_⟩;exact(Gr.setCell (p:=⟨w.heap.size+1,2,none⟩) (Gr.setCell (p:=⟨w.heap.size+1,5,none⟩) U.o (show w.heap.size≤w.heap.size+1 by omega) (.string q5)) (show w.heap.size≤w.heap.size+1 by omega) (.int .i64 q2)).drew;exact((az.ne (az.ne I.o (by omega)) (by omega)).gr (Gr.drew (Gr.refl _)));exact((az.set (az.set J.o 5 (.string q5)) 2 (.int .i64 q2)).gr (Gr.drew (Gr.refl _))))
 case rest=>
  obtain⟨gD,T,K⟩:=hcut
  rename World=>W2
  have aj:=Kz gD;obtain⟨Y,x1,x2,x3,x4,x5,x6⟩:=T.c7;obtain⟨Z,y1,y2,y3,y4,y5,y6⟩:=K.c7;have zx:=blk Y;have zy:=blk Z;clear T K gD
  go_wp2_with (first|(go_at_call 137;refine(di _ _ _ _).mono ?_;rintro e w' ⟨rfl,rfl⟩)|(go_at_call 293;refine(fV _ _ _).mono ?_;rintro e w' ⟨rfl,x2,rfl⟩)|(go_at_call_of 240 q5;refine(bG _ ai _).mono ?_;rintro e w' ⟨rfl,x3,rfl⟩)|(go_at_call_of 240 q4;refine(bG _ ah _).mono ?_;rintro e w' ⟨rfl,x4,rfl⟩)|(go_at_call 294;refine(gI _ _ _ _ _ _ _ _ _ _ _ _ _ _ _ _ _ _ _).mono ?_;rintro e w' ⟨rfl,x5,rfl⟩))
  go_ways
  all_goals
   go_ret;refine⟨aa ?_,aj.o.trans gd⟩;rw[HR.o];clear HR V;unfold jg jL
   first|(simp_all [fO,eY,eD];done)|(rw[Bool.eq_iff_iff];simp only[fO,Bool.and_eq_true,Bool.or_eq_true,decide_eq_true_eq,beq_iff_eq,eD];simp_all [eY];(try constructor)<;>intro h<;>simp_all;done)|(simp_all [fO,eY,eD];intros;omega)|(have ho:=(dx.1 (show pB (eG q1 q3)=true by assumption)).1;have h4:q3≠4:=(by rintro rfl;simp_all);have ak:decide (1≤q3)=true:=decide_eq_true ho.1;have au:decide (q3≤3)=true:=decide_eq_true (by omega);rw[ak,au];rw[Bool.eq_iff_iff];simp only[fO,Bool.and_eq_true,Bool.or_eq_true,decide_eq_true_eq,beq_iff_eq,eD];simp_all [eY];(try constructor)<;>intro h<;>simp_all;done)
theorem Es(fp:List Nat)(cs:Array Value)(x:aA d)(w:World)(hx:Rd.rd fp w cs.toList x)(hl:aS x≤1048576)(hk:x.1=8):Qz 278 #[.agg cs] w (.bool (pB (jJ x))):=by
 obtain⟨q0,q1,q2,q3,q4,q5,q6,q,D,ax,rfl,rfl,-,ay,aZ,bg,bq,bB,bH,ae,-,-⟩:=KU hx;have V:=ae.op3;clear hx;have hw:q4.size+q5.size+wtL (wtE d) q6≤1048576:=hl;have ah:q4.size≤2097152:=by omega
 have ai:q5.size≤2097152:=by omega
 clear hl hw;rw[←jd,←jc];obtain⟨R,X⟩:=nm (jg q0 q1 q2 q3 (jL q0 q1 q2 q3 q4 q5 q6.length) (pB (eG q1 q3)) (pB (dh q4)) (pB (dh q5)));rw[←X];have HR:=Kz X;clear X;obtain rfl:q0=8:=hk;skip;delta Qz;go_in;go_wp2_with fail;generalize O:((w.alloc (.cells #[.int .i64 8,.int .i64 q1,.int .i64 q2,.int .i64 q3,.string q4,.string q5,.slice q q6.length D] 165)).alloc (.cells #[.int .i64 8,.int .i64 0,.int .i64 0,.int .i64 0,.string ⟨#[]⟩,.string ⟨#[]⟩,.slice q q6.length D] 165))=B;have gB:Gr w B:=gb O;have vX:az B w.heap.size 165 [.int .i64 8,.int .i64 q1,.int .i64 q2,.int .i64 q3,.string q4,.string q5,.slice q q6.length D]:=by rw[←O];exact(az.new (A:=w) rfl).gr gd
 have vD:az B (w.heap.size+1) 165 [.int .i64 8,.int .i64 0,.int .i64 0,.int .i64 0,.string ⟨#[]⟩,.string ⟨#[]⟩,.slice q q6.length D]:=by rw[←O];exact az.new (by simp)
 have I:=Kz vX;have J:=Kz vD;have U:=Kz gB;clear O vX vD gB
 go_cut [4] (fun s4 wr=>s4=.int .i64 1∧uB w w.heap.size [.int .i64 8,.int .i64 q1,.int .i64 q2,.int .i64 q3,.string q4,.string q5,.slice q q6.length D] (w.heap.size+1) [.int .i64 8,.int .i64 0,.int .i64 0,.int .i64 0,.string q4,.string q5,.slice q q6.length D] wr)
 case first=>
  have T:=I.o;have K:=J.o;obtain⟨Y,x1,x2,x3,x4,x5,x6⟩:=T.c7;obtain⟨Z,y1,y2,y3,y4,y5,y6⟩:=K.c7;have zx:=blk Y;have zy:=blk Z;have fy:=fun k=>K.frozen k
  go_region
  all_goals
   go_wp2_with fail;go_meet;unfold uB;first|(refine⟨rfl,⟨?_,?_,?_⟩⟩;exact(Gr.setCell (p:=⟨w.heap.size+1,5,none⟩) (Gr.setCell (p:=⟨w.heap.size+1,4,none⟩) U.o (show w.heap.size≤w.heap.size+1 by omega) (.string q4)) (show w.heap.size≤w.heap.size+1 by omega) (.string q5)).drew;exact((az.ne (az.ne I.o (by omega)) (by omega)).gr (Gr.drew (Gr.refl _)));exact((az.set (az.set J.o 4 (.string q4)) 5 (.string q5)).gr (Gr.drew (Gr.refl _))))|(refine⟨rfl,⟨?_,?_,?_⟩⟩;exact(Gr.setCell (p:=⟨w.heap.size+1,4,none⟩) (Gr.setCell (p:=⟨w.heap.size+1,5,none⟩) U.o (show w.heap.size≤w.heap.size+1 by omega) (.string q5)) (show w.heap.size≤w.heap.size+1 by omega) (.string q4)).drew;exact((az.ne (az.ne I.o (by omega)) (by omega)).gr (Gr.drew (Gr.refl _)));exact((az.set (az.set J.o 5 (.string q5)) 4 (.string q4)).gr (Gr.drew (Gr.refl _))))
 case rest=>
  obtain⟨rfl,gD,T,K⟩:=hcut
  rename World=>W2
  have aj:=Kz gD;obtain⟨Y,x1,x2,x3,x4,x5,x6⟩:=T.c7;obtain⟨Z,y1,y2,y3,y4,y5,y6⟩:=K.c7;have zx:=blk Y;have zy:=blk Z;clear T K gD
  go_wp2_with (first|(go_at_call 137;refine(di _ _ _ _).mono ?_;rintro e w' ⟨rfl,rfl⟩)|(go_at_call 293;refine(fV _ _ _).mono ?_;rintro e w' ⟨rfl,x2,rfl⟩)|(go_at_call_of 240 q5;refine(bG _ ai _).mono ?_;rintro e w' ⟨rfl,x3,rfl⟩)|(go_at_call_of 240 q4;refine(bG _ ah _).mono ?_;rintro e w' ⟨rfl,x4,rfl⟩)|(go_at_call 294;refine(gI _ _ _ _ _ _ _ _ _ _ _ _ _ _ _ _ _ _ _).mono ?_;rintro e w' ⟨rfl,x5,rfl⟩))
  go_ways
  all_goals
   go_ret;refine⟨aa ?_,aj.o.trans gd⟩;rw[HR.o];clear HR V;unfold jg jL
   first|(simp_all [fO,eY,eD];done)|(rw[Bool.eq_iff_iff];simp only[fO,Bool.and_eq_true,Bool.or_eq_true,decide_eq_true_eq,beq_iff_eq,eD];simp_all [eY];(try constructor)<;>intro h<;>simp_all;done)|(simp_all [fO,eY,eD];intros;omega)|(have ho:=(dx.1 (show pB (eG q1 q3)=true by assumption)).1;have h4:q3≠4:=(by rintro rfl;simp_all);have ak:decide (1≤q3)=true:=decide_eq_true ho.1;have au:decide (q3≤3)=true:=decide_eq_true (by omega);rw[ak,au];rw[Bool.eq_iff_iff];simp only[fO,Bool.and_eq_true,Bool.or_eq_true,decide_eq_true_eq,beq_iff_eq,eD];simp_all [eY];(try constructor)<;>intro h<;>simp_all;done)
theorem D7(fp:List Nat)(cs:Array Value)(x:aA d)(w:World)(B:Rd.rd fp w cs.toList x)(D:aS x≤1048576)(hk:¬(1≤x.1∧x.1≤8)):Qz 278 #[.agg cs] w (.bool (pB (jJ x))):=by
 obtain⟨q0,q1,q2,q3,q4,q5,q6,T,U,V,rfl,rfl,-,X,Y,Z,ae,ah,ai,aj,I,J⟩:=KU B;clear B;have hw:q4.size+q5.size+wtL (wtE d) q6≤1048576:=D;clear D hw;rw[←jd,←jc];obtain⟨R,q⟩:=nm (jg q0 q1 q2 q3 (jL q0 q1 q2 q3 q4 q5 q6.length) (pB (eG q1 q3)) (pB (dh q4)) (pB (dh q5)));rw[←q];have K:=Kz q;clear q;have ak:(q0==1)=false:=by simp;rintro rfl;exact hk ⟨by simp,by simp⟩
 have au:(q0==2)=false:=by simp;rintro rfl;exact hk ⟨by simp,by simp⟩
 have ax:(q0==3)=false:=by simp;rintro rfl;exact hk ⟨by simp,by simp⟩
 have ay:(q0==4)=false:=by simp;rintro rfl;exact hk ⟨by simp,by simp⟩
 have aZ:(q0==5)=false:=by simp;rintro rfl;exact hk ⟨by simp,by simp⟩
 have bg:(q0==6)=false:=by simp;rintro rfl;exact hk ⟨by simp,by simp⟩
 have bq:(q0==7)=false:=by simp;rintro rfl;exact hk ⟨by simp,by simp⟩
 have bB:(q0==8)=false:=by simp;rintro rfl;exact hk ⟨by simp,by simp⟩
 have O:=Kz hk;clear hk;delta Qz;go_in;go_wp2_with fail;go_ret;refine⟨aa ?_,gd⟩;rw[K.o];unfold jg;have:(decide (1≤q0)&&decide (q0≤8))=false:=by rw[Bool.eq_false_iff];intro h;rw[Bool.and_eq_true,decide_eq_true_iff,decide_eq_true_iff] at h;exact O.o h
 rw[this];rfl
theorem Bw(fp:List Nat)(cs:Array Value)(x:aA d)(w:World)(q:Rd.rd fp w cs.toList x)(B:aS x≤1048576):Qz 278 #[.agg cs] w (.bool (pB (jJ x))):=by
 by_cases h:1≤x.1∧x.1≤8
 ·have:x.1=1∨x.1=2∨x.1=3∨x.1=4∨x.1=5∨x.1=6∨x.1=7∨x.1=8:=by omega
  rcases this with h|h|h|h|h|h|h|h
  ·exact Dx fp cs x w q B h
  ·exact DF fp cs x w q B h
  ·exact DW fp cs x w q B h
  ·exact Ei fp cs x w q B h
  ·exact Ey fp cs x w q B h
  ·exact DX fp cs x w q B h
  ·exact DN fp cs x w q B h
  ·exact Es fp cs x w q B h
 ·exact D7 fp cs x w q B h
set_option maxRecDepth 100000 in
theorem yB{fg:List Nat}{cg:Array Value}(g:(af d)){ft:List Nat}{ct:Array Value}(t:fU)(w:World)(hg:Rd.rd fg w cg.toList g)(ht:Rd.rd ft w ct.toList t)(hl:aP g≤1048576):
  Calls Tryz.prog 56 #[.agg cg,.agg ct] w (p8 w (bU g t)):=by
 obtain⟨i0,hi⟩:=info_parts Tryz.o6;have HZ:=Kz hi;clear hi;have cB:=Kz hl;clear hl;have HG:=Kz hg;obtain⟨g0,g1,ag0,kg0,zf,ag1,kg1,zg,rfl,rfl,-,zl,wF,wL,zn,xc,x9⟩:=yt hg;clear hg;have HT:=Kz ht;obtain⟨t0,cK,cO,zo,rfl,rfl,-,dB,yc,yu⟩:=K8 ht;have oL:=dB.op3;clear ht
 by_cases J:fP (g0,g1) t0=true
 ·have ah:=Kz J
  have hlen:t0.length≤16:=(jv.1 J).1.2;clear J;go_in;go_wp2_with fail;refine(nG (g0,g1) t0 _ (Rd.gr HG.o gd) (Rd.gr HT.o gd)).mono ?_;rintro e w' ⟨rfl,x1,rfl⟩;rw[ah.o];go_wp2_with fail;generalize hB:((w.alloc (.cells #[.slice ag0 g0.length kg0,.slice ag1 g1.length kg1] 39)).alloc (.cells #[.slice cK t0.length cO] 43))=B;have gB:Gr w B:=gb hB;obtain⟨dS,dV⟩:=kb2 hB (w.heap.size) (.slice ag0 g0.length kg0) (.slice ag1 g1.length kg1);have fe:=kb hB (w.heap.size+1) 0 (.slice cK t0.length cO);have sB:B.heap.size=w.heap.size+2:=szB hB;clear hB
  go_loopw [21,5] (fun ai s5 wr=>∃(k:Nat) (fps:List (List Nat)),k≤t0.length∧Ky (fps.flatten=[])∧Gr B wr∧bE (α:=av) B 45 wr s5 fps ((t0.take k).flatMap (ll (g0,g1)))∧ai=.int .i64 k) (fun ai _ _=>t0.length - (intOf ai).toNat)
  case atStart=>exact⟨0,[],by omega,Kz rfl,gd,(bE.kF (α:=av) (w0:=B) (w:=B) 45 (Nat.le_refl _) (by omega)).gr gd,rfl⟩
  case round=>
   obtain⟨k,fps,hk,HF,hg,hown,rfl⟩:=hrel
   rename World=>W1
   have D:=Kz hg;have HO:=Kz hown;obtain⟨V,rc,q⟩:=hown.form;obtain⟨L,hL⟩:=nm ((t0.take k).flatMap (ll (g0,g1)));have zq:L.length≤16777216:=by rw[hL];exact yZ cB.o ah.o k
   rw[←hL] at q;have HL:=Kz hL;have y0:=dS _ hg;have y1:=dV _ hg;have y2:=fe _ hg;subst q;clear hg hown hL
   by_cases I:k<t0.length
   ·have aj:Gr w W1:=gB.trans D.o
    have o5:=Kz aj;obtain⟨b,off,rfl,X⟩:=oL k I;obtain⟨q0,q1,q2,q3,q4,q5,o9,qb,zu,zx,fu,zy,gD,-,-,-,-,-,y5,y7,zH,zL,zO,z8,A7,BM,EB⟩:=KZ dB I aj;have q8:=Kz gD;clear aj gD;have j0:(0:Int)≤(k:Int):=by omega
    have j1:(k:Int)<(t0.length:Int):=by omega
    have hs:zB (g0,g1) t0 (k:Int)=leftOf (g0,g1) (q0,q1,q2,q3,q4,q5):=by unfold zB;rw[gG I,←fu.o]
    have HS:=Kz hs;obtain⟨Y,hY⟩:=nm ((bW g0 (leftOf (g0,g1) (q0,q1,q2,q3,q4,q5))).getD dE);have ak:=Kz hY;clear hs hY;go_wp2_with fail;generalize au:W1.alloc (.cells #[.int .i64 q0,.int .i64 q1,.int .i64 q2,.int .i64 q3,.string q4,.slice o9 q5.length qb] 130)=W5;have g5:Gr W1 W5:=gb au;have q9:W5.cell? ⟨W1.heap.size,0,none⟩=some (.int .i64 q0):=by rw[←au];exact aJ rfl rfl
    have k0:=fun(w':World) (h:Gr W5 w')=>h.keep (g5.keep y0)
    have k1:=fun(w':World) (h:Gr W5 w')=>h.keep (g5.keep y1)
    have k2:=fun(w':World) (h:Gr W5 w')=>h.keep (g5.keep y2)
    have ax:=Kz g5;have O:=Kz (o5.o.trans g5);clear au g5
    go_cut [8] (fun s8 wr=>mK w W5 Y s8 wr)
    case first=>
     go_region_held3 (fun w'=>Gr W5 w') (exact ga)
      (first|(go_at_call 87;refine(jM (g0,g1) t0 (k:Int) _ (Rd.gr HG.o (O.o.trans ga)) (Rd.gr HT.o (O.o.trans ga))).mono ?_;rintro e w' ⟨rfl,x2,rfl⟩;rw[HS.o])|(go_at_call 86;refine(dY (g0,g1) (leftOf (g0,g1) (q0,q1,q2,q3,q4,q5)) _ (Rd.gr HG.o (O.o.trans ga))).mono ?_;rintro e w' ⟨es,fq,rfl,hr,gF,x3,rfl⟩;obtain⟨r0,r1,sO,uf,gT,aZ,rfl,uo,uq,bg,y8,y9⟩:=Lg (x:=(bW g0 (leftOf (g0,g1) (q0,q1,q2,q3,q4,q5))).getD dE) hr;have uz:=Kz aZ;have E5:=Lt aZ hr;clear hr aZ;obtain⟨bb,X⟩:∃b:Bool,b=(bW g0 (leftOf (g0,g1) (q0,q1,q2,q3,q4,q5))).isSome:=⟨_,rfl⟩;rw[←X];have FX:=Kz X;clear X;have u6:=Kz gF;clear gF))
     all_goals
      go_wp2_with fail;go_meet;have hY:Y=(r0,r1):=ak.o.trans uz.o.symm;subst hY;have K:∀c∈gT,c<w.heap.size∨_≤c:=fun c hc=>(u6.o c (by rw[uo.o];simpa using hc)).imp (Rd.lt HG.o c) id
      have F4:=O.o.size;refine⟨_,.slice sO r1.length uf,gT,rfl,gd,?_,?_,?_,uq,by first|omega|(simp;done)|(simp;omega),fun c hc=>(K c hc).imp id (fun h=>by simp at h;omega)⟩
      ·exact kd
      ·exact kd
      ·first
        |(refine bg.gr ?_;(repeat(first|exact Gr.refl _|apply Gr.ext|apply Gr.alloc|apply Gr.drew));done)
        |((with_reducible refine bg.mono (dO ?_));exact fun c hc e=>by subst e;have:=K _ hc;simp at this;omega)
        |((with_reducible refine bg.mono (dM ?_));exact fun c hc e=>by subst e;have:=K _ hc;simp at this;omega)
    case rest=>
     obtain⟨b8,v8,fr,rfl,bq,d0,d1,sl,-,za,T⟩:=hcut
     rename World=>W6
     obtain⟨ay,ky,rfl,F5,F6,ve⟩:=sl.open;have vB:=Kz sl;have bB:=Kz bq;have F8:Y.2.length≤1048576:=by have:=cB.o;rw[ak.o];exact xn (Nat.le_trans (Nat.le_add_right _ _) this) _
     have gV:∀b,(Value.slice V L.length rc).ownBlock=some b→B.heap.size≤b∧b<W1.heap.size:=HO.o.base;have gX:=Kz gV;have Ha:=ax.o.size;have d5:=bq.keep q9
     have bH:∀c∈fr,c∉(Value.slice V L.length rc).ownBlock.toList:=fun c hc hm=>by
      have h1:=gX.o c (by simpa using hm);have:=gB.size;rcases T c hc with h|h<;>omega
     have bL:=Kz bH;have K:W1.heap.size∉(Value.slice V L.length rc).ownBlock.toList:=fun hm=>by have:=gX.o _ (by simpa using hm);omega
     have ik:=Kz K;obtain⟨O0,bR⟩:=nm ((Value.slice V L.length rc).ownBlock);rw[←bR] at bL ik;have vD:=Kz bR;clear k0 k1 k2 sl bq gV bH K T bR;go_wp2_with fail
     go_loopw [38,5] (fun bX s5 wr=>∃(j:Nat) (fps:List (List Nat)),j≤Y.2.length∧Ky (fps.flatten=[])∧Gr B wr∧Wr O0.toList W6 wr∧Ky (s5.ownBlock=O0∨∃n,s5.ownBlock=some n∧W6.heap.size≤n)∧bE (α:=av) B 45 wr s5 fps (L++(Y.2.take j).map (fun a=>(q0,a.1)))∧bX=.int .i64 j) (fun bX _ _=>Y.2.length - (intOf bX).toNat)
     case atStart=>exact⟨0,fps,by omega,HF,D.o.trans (ax.o.trans bB.o),Wr.refl _ _,Kz (.inl vD.o.symm),by simpa[HL.o] using HO.o.gr (ax.o.trans bB.o),rfl⟩
     case round=>
      obtain⟨j,fps,hj,HF,hg,Z,HV,hown,rfl⟩:=hrel
      rename World=>W7
      have D:=Kz hg;have iw:=Kz Z;have HO:=Kz hown;obtain⟨V,rc,q⟩:=hown.form;obtain⟨M,hM⟩:=nm (L++(Y.2.take j).map (fun a=>(q0,a.1)));have He:M.length≤17825792:=by rw[hM,List.length_append,List.length_map,List.length_take];omega
      rw[←hM] at q;have HM:=Kz hM;have y0:=dS _ hg;have y1:=dV _ hg;have y2:=fe _ hg;have e5:=Z.aO d5 ik.o;have HY:=blk e5;have U:=vB.o.wr Z bL.o;have vF:=Kz U;clear hg Z hown hM U;subst q
      by_cases kr:j<Y.2.length
      ·have I:=kr
       have U:=vF.o;obtain⟨bp,zb,rfl,ze⟩:=ve j I;obtain⟨p0,p1,p2,p3,vG,H5,ku,-,-,IV,KX,K3,K4,K6⟩:=K5 U I (Gr.refl _);have lq:=Kz (And.intro q8.o ku);clear U ku;have La:(0:Int)≤(j:Int):=by omega
       have Li:(j:Int)<(Y.2.length:Int):=by omega
       go_wp2_with (first|(at_builtin;refine eU (α:=av) (wg:=B) (w0:=B) (tg D) (Nat.le_refl _) (tg D).size rfl _ _ 34 rfl 45 i0 _ _ Tryz.underlying34 HZ.o.1 HZ.o.2.1 HZ.o.2.2.1 HZ.o.2.2.2 rfl _ fps _ (by rfl) (HO.o.gr gd) _ [[]] [(q0,p0)] (by rfl) (eT.one (by simp) (bZ q0 p0 lq.o.1 lq.o.2)) (fun b _=>by simp) (by rw[←HM.o];unfold maxLen;simp;omega) (by rw[←HM.o];simp;omega) ?_;intro v9 w9 k1 k2 k3 k4;replace k1:=Kz k1;replace k2:=Kz k2;replace k3:=Kz k3;replace k4:=Kz k4))
       have ae:Wr (Value.slice V M.length rc).ownBlock.toList _ w9:=k2.o;have oH:v9.ownBlock=(Value.slice V M.length rc).ownBlock∨_:=k3.o;have vL:=Kz ae;have vO:=Kz oH;clear ae oH;refine⟨⟨j+1,fps++[[]],by omega,Kz (by rw[List.flatten_append,HF.o];rfl),k4.o,iw.o.more HV.o (((gd:Gr W7 _).eF _).trans vL.o),Kz (tq HV.o vO.o (Nat.le_trans iw.o.size (by simp<;>omega))),?_,by go_num⟩,by simp[intOf];omega⟩
       have e:L++(Y.2.take (j+1)).map (fun a=>(q0,a.1))=M++[(q0,p0)]:=by
        rw[List.take_succ_eq_append_getElem kr,List.map_append,←List.append_assoc,←HM.o,←vG.o];rfl
       have h1:=k1.o;rw[←HM.o] at h1;rw[e];exact h1
      ·have vR:j=Y.2.length:=by omega
       subst vR;go_wp2_with fail;refine⟨⟨k+1,fps,by omega,HF,D.o.trans gd,?_,by go_num⟩,by simp[intOf];omega⟩
       have e:(t0.take (k+1)).flatMap (ll (g0,g1))=M:=by
        rw[List.take_succ_eq_append_getElem I,List.flatMap_append,←HL.o,HM.o,take_length,←fu.o,List.flatMap_cons,List.flatMap_nil,List.append_nil];unfold ll;rw[←ak.o]
       have h1:=HO.o;rw[←HM.o] at h1;rw[e];exact h1.gr gd
   ·have ae:k=t0.length:=by omega
    subst ae;have hI:bU (g0,g1) t0=L:=by unfold bU;rw[if_pos ah.o,HL.o,take_length]
    have HI:=Kz hI;have T:=HO.o.fresh (by rw[←HL.o];unfold bn;omega) (by rw[HF.o];exact aY.nil _);rw[←HL.o] at T;obtain⟨fq,hs,hf⟩:=T;have HS:=Kz hs;have vX:=Kz (hf.of_le gB.size);clear hI hs hf;go_wp2_with fail;go_ret;exact⟨_,fq,rfl,by rw[HI.o];exact HS.o.gr gd,vX.o,gB.trans (tg D)⟩
 ·have hI:bU (g0,g1) t0=[]:=by unfold bU;rw[if_neg J]
  have HI:=Kz hI;have hb:fP (g0,g1) t0=false:=eq_false_of_ne_true J;have HB:=Kz hb;clear hI J hb;go_in;go_wp2_with fail;refine(nG (g0,g1) t0 _ (Rd.gr HG.o gd) (Rd.gr HT.o gd)).mono ?_;rintro e w' ⟨rfl,x1,rfl⟩;rw[HB.o];go_wp2_with fail;go_ret;exact⟨_,[],rfl,by rw[HI.o];exact⟨_,0,rfl,by simp,by simp,.inl ⟨rfl,rfl⟩⟩,aY.nil _,gd⟩
end Go.Proofs.YtleafadpfeibfaaGreat
