/- Contracts and laws towards ReadsOf, part 20 of 54. No condition. -/
import Derived.Test.YtdhighcpmcdmmaaGreatFx16
import Derived.Test.YtdhighcpmcdmmaaGreatFx12
set_option maxHeartbeats 32000000
set_option maxRecDepth 10000
set_option linter.unusedVariables false
set_option linter.unusedSimpArgs false
namespace Go.Proofs.YtdhighcpmcdmmaaGreat
open Go.RowKit
open _root_.List (foldl_cons getElem_mem map_append map_cons take_length)
open _root_.Int (lt_or_le)
variable{d:Nat}
variable{w:World}{N g n k:Nat}{cs:Array Value}{t:TypeId}{q0 q1 q2 q3:Int}{q4 q5:ByteArray}
theorem bE.zk{α:Type}[Rd α]{w0:World}(e:TypeId)(h:w0.heap.size≤w.heap.size)(H:g=w.heap.size){q:List (List Value)}{fps:List (List Nat)}{xs:List α}(s:Els w q fps xs)(B:cs.toList=q.flatten)(I:xs.length≤maxLen):bE w0 e (w.alloc (.cells cs e)) (.slice (some ⟨g,0,none⟩) xs.length xs.length) fps xs:=by
 subst H;have E:Gr w (w.alloc (.cells cs e)):=gd;refine⟨⟨q,?_,s.mono (E.lN s.lt)⟩,fun b D hm=>?_⟩
 ·have J:=World.ownsRow_lit (base:=w0.heap.size) (e:=e) (size:=Rd.n α) w cs xs.length h I (by rw[←Array.length_toList,B,nY s.n,s.cl])
  rw[←B];exact J
 ·injection D with D
  subst D;exact Nat.lt_irrefl _ (s.lt _ hm)
theorem Els.JZ{α:Type}[Rd α](enc:α→Value){xs:List α}(h:∀x∈xs,Rd.rd (α:=α) [] w [enc x] x):Els w (xs.map fun x=>[enc x]) (xs.map fun _=>[]) xs:=
 ⟨by simp,by simp,fun i q s B=>by simpa using h _ (getElem_mem q)⟩
theorem GI{α:Type}(enc:α→Value)(xs:List α):(xs.map fun x=>[enc x]).flatten=xs.map enc:=by
 induction xs with
 |nil=>rfl
 |cons x xs h=>simp[h]
theorem SlR.FB{α:Type}[Rd α](enc:α→Value)(e:TypeId)(D:g=w.heap.size)(xs:List α)(E:n=xs.length)(s:cs.toList=xs.map enc)(h:∀x∈xs,Rd.rd (α:=α) [] w [enc x] x)(J:xs.length≤1048576):∃fp,SlR fp (w.alloc (.cells cs e)) (.slice (some ⟨g,0,none⟩) n n) xs∧∀b∈fp,w.heap.size≤b:=by
 subst E;have B:=bE.zk (w0:=w) e (Nat.le_refl _) D (Els.JZ enc h) (s.trans (GI enc xs).symm) (by unfold maxLen;omega);obtain⟨fp,H,I⟩:=B.slR (by unfold bn;omega);refine⟨fp,H,fun b q=>?_⟩;rcases I with⟨-,rfl⟩|⟨c,hc,rfl⟩
 ·simp at q
 ·rw[show((xs.map fun _=>([]:List Nat))).flatten=[] by simp] at q
  obtain rfl:=List.mem_singleton.1 q;exact(B.base _ hc).1
theorem SlR.Kk(e:TypeId)(s:g=w.heap.size)(xs:List ByteArray)(B:n=xs.length)(q:cs.toList=xs.map Value.string)(h:∀x∈xs,x.size≤64)(D:xs.length≤1048576):∃fp,SlR fp (w.alloc (.cells cs e)) (.slice (some ⟨g,0,none⟩) n n) xs∧∀b∈fp,w.heap.size≤b:=
 SlR.FB Value.string e s xs B q (fun x E=>⟨rfl,rfl,by have:=h x E;unfold maxLen;omega⟩) D
theorem SlR.Kg(e:TypeId)(s:g=w.heap.size)(xs:List Int)(B:n=xs.length)(q:cs.toList=xs.map (Value.int .i64))(h:∀x∈xs,(Lit.int .i64 x).wf=true)(D:xs.length≤1048576):∃fp,SlR fp (w.alloc (.cells cs e)) (.slice (some ⟨g,0,none⟩) n n) xs∧∀b∈fp,w.heap.size≤b:=
 SlR.FB (Value.int .i64) e s xs B q (fun x E=>⟨rfl,rfl,h x E⟩) D
theorem mi{fp:List Nat}{u:Value}(xs:List ByteArray)(s:ByteArray)(w:World)(hu:SlR fp w u xs):
  Qz 269 #[u,.string s] w (.bool (pB (s∈xs))):=by
 have T:=Kz hu;obtain⟨a,c,rfl,k1,k2,U⟩:=hu.open;clear hu;delta Qz;go_in;go_wp2_with fail
 go_loopw [5] (fun E wr=>∃k:Nat,k≤xs.length∧s∉xs.take k∧wr=w∧E=.int .i64 k) (fun E _=>xs.length - (intOf E).toNat)
 case atStart=>exact⟨0,by omega,by simp,rfl,rfl⟩
 case round=>
  obtain⟨k,hk,D,rfl,rfl⟩:=hrel;have J:=Kz D;clear D
  by_cases q:k<xs.length
  ·obtain⟨b,off,rfl,hb⟩:=U k q
   have X:=(T.o.jl q).1;obtain⟨y,H⟩:=nm (xs[k]);rw[←H] at X;have K:=Kz H;clear H;have k0:(0:Int)≤(k:Int):=by omega
   have Z:(k:Int)<(xs.length:Int):=by omega
   have iw:=zI1 k (by omega)
   by_cases B:y=s
   ·have Y:(y.toList==s.toList)=true:=by rw[B];simp
    have I:=Kz B;clear B;go_wp2_with fail;go_ret;exact⟨aa (bQ (by rw[←I.o,K.o];exact getElem_mem q)).symm,Gr.refl _⟩
   ·have Y:(y.toList==s.toList)=false:=by
     rw[beq_eq_false_iff_ne];exact fun h=>B (str_inj h)
    have I:=Kz B;clear B;go_wp2_with fail;refine⟨⟨k+1,by omega,?_,trivial,by go_num⟩,by simp[intOf];omega⟩;rw[List.take_succ_eq_append_getElem q,List.mem_append,List.mem_singleton,←K.o];exact fun h=>h.elim J.o (fun h=>I.o h.symm)
  ·have O:k=xs.length:=by omega
   subst O;go_wp2_with fail;go_ret;exact⟨aa (bz (by have:=J.o;rwa [take_length] at this)).symm,Gr.refl _⟩
set_option maxRecDepth 100000 in
theorem wM(w:World):Calls Tryz.prog 331 #[] w fun e w'=>∃v fq,e=.returned v∧SlR fq w' v rQ∧Gr w w':=by
 go_in;go_wp2_with fail;go_ret;obtain⟨fp,h,-⟩:=SlR.Kk 9 (w:=w) rfl rQ rfl rfl (by decide) (by decide);exact⟨_,fp,rfl,h,gd⟩
theorem tY(s:ByteArray)(w:World):Qz 319 #[.string s] w (.bool (pB (s∈rQ))):=by
 delta Qz;go_in;go_wp2_with fail;refine(wM _).mono ?_;rintro e w' ⟨v,fq,rfl,h,q⟩;have E:=Kz h;have H:=Kz q;clear h q;go_wp2_with fail;refine(mi rQ s _ E.o).mono ?_;rintro e w' ⟨rfl,B⟩;have D:=Kz B;clear B;go_wp2_with fail;go_ret;exact⟨rfl,H.o.trans D.o⟩
theorem yn(s:ByteArray)(hs:s.size≤2097152)(w:World):Qz 318 #[.string s] w (.bool (pB (qw s))):=by
 delta Qz;go_in;go_wp2_with fail
 go_loopw [3] (fun T wr=>∃k:Nat,k≤s.size∧Ky (∀j (h:j<s.size),j<k→qz s[j]∨(j≠0∧rV s[j]))∧wr=w∧T=.int .i64 k) (fun T _=>s.size - (intOf T).toNat)
 case atStart=>exact⟨0,by omega,Kz (fun j h U=>by omega),rfl,rfl⟩
 case round=>
  obtain⟨k,hk,Y,rfl,rfl⟩:=hrel
  by_cases Z:k<s.size
  ·have k0:(0:Int)≤(k:Int):=by omega
   have k1:(k:Int)<(s.size:Int):=by omega
   have iw:=zI1 k (by omega)
   by_cases B:qz s[k]∨(k≠0∧rV s[k])
   ·have E:=Kz B
    have J:∀j (h:j<s.size),j<k+1→qz s[j]∨(j≠0∧rV s[j]):=fun j h hj=>by
     by_cases e:j=k
     ·subst e;exact B
     ·exact Y.o j h (by omega)
    have D:=Kz J;clear B J
    by_cases q:k=0
    ·have K:((k:Int)==0)=true:=by simp[q]
     have H:=Kz q;clear q;go_wp2_with fail
     all_goals first
      |exact⟨⟨k+1,by omega,D,trivial,by go_num⟩,by simp[intOf];omega⟩
      |(exfalso;have I:=E.o;have X:=H.o;unfold qz rV at I;first|omega|(simp only[Bool.not_eq_true',Bool.not_eq_false',decide_eq_true_eq,decide_eq_false_iff_not] at*;omega))
    ·have K:((k:Int)==0)=false:=by simp[q]
     have H:=Kz q;clear q;go_wp2_with fail
     all_goals first
      |exact⟨⟨k+1,by omega,D,trivial,by go_num⟩,by simp[intOf];omega⟩
      |(exfalso;have I:=E.o;have X:=H.o;unfold qz rV at I;first|omega|(simp only[Bool.not_eq_true',Bool.not_eq_false',decide_eq_true_eq,decide_eq_false_iff_not] at*;omega))
   ·have E:=Kz B
    have O:¬qw s:=fun h=>B (h.2 k Z)
    have D:=Kz (bz O);clear B O
    by_cases q:k=0
    ·have K:((k:Int)==0)=true:=by simp[q]
     have H:=Kz q;clear q;go_wp2_with fail
     all_goals first
      |(go_ret;exact⟨aa D.o.symm,Gr.refl _⟩)
      |(exfalso;have I:=E.o;have X:=H.o;unfold qz rV at I;first|omega|(simp only[Bool.not_eq_true',Bool.not_eq_false',decide_eq_true_eq,decide_eq_false_iff_not] at*;omega))
    ·have K:((k:Int)==0)=false:=by simp[q]
     have H:=Kz q;clear q;go_wp2_with fail
     all_goals first
      |(go_ret;exact⟨aa D.o.symm,Gr.refl _⟩)
      |(exfalso;have I:=E.o;have X:=H.o;unfold qz rV at I;first|omega|(simp only[Bool.not_eq_true',Bool.not_eq_false',decide_eq_true_eq,decide_eq_false_iff_not] at*;omega))
  ·have ae:k=s.size:=by omega
   subst ae
   by_cases U:1≤s.size
   ·have ah:(0:Int)<(s.size:Int):=by omega
    have D:=Kz (bQ (show qw s from⟨U,fun j h=>Y.o j h h⟩));go_wp2_with fail;go_ret;exact⟨aa (by rw[D.o];first|exact decide_eq_true (by omega)|exact decide_eq_false (by omega)),Gr.refl _⟩
   ·have ah:¬(0:Int)<(s.size:Int):=by omega
    have D:=Kz (bz (show¬qw s from fun h=>U h.1));go_wp2_with fail;go_ret;exact⟨aa (by rw[D.o];first|exact decide_eq_true (by omega)|exact decide_eq_false (by omega)),Gr.refl _⟩
theorem dN(s:ByteArray)(T:s.size≤2097152)(w:World):Qz 280 #[.string s] w (.bool (pB (dh s))):=by
 delta Qz;go_in;go_wp2_with fail;refine(yn s T _).mono ?_;rintro e w' ⟨rfl,I⟩;have B:=Kz I;clear I
 by_cases q:qw s
 ·rw[bQ q]
  by_cases E:s.size≤8
  ·have J:(s.size:Int)≤8:=by omega
   have D:=Kz (show pB (dh s)=!(pB (s∈rQ)) from by
    by_cases H:s∈rQ
    ·rw[bQ H,bz (fun h=>h.2.2 H)];rfl
    ·rw[bz H,bQ ⟨q,E,H⟩];rfl)
   clear q E;go_wp2_with fail;refine(tY s _).mono ?_;rintro e w' ⟨rfl,K⟩;have O:=Kz K;clear K;go_wp2_with fail;go_ret;exact⟨aa (by rw[D.o]),B.o.trans O.o⟩
  ·have J:¬(s.size:Int)≤8:=by omega
   have D:=Kz (bz (show¬dh s from fun h=>E h.2.1));clear q E;go_wp2_with fail;go_ret;exact⟨aa D.o.symm,B.o⟩
 ·rw[bz q]
  have D:=Kz (bz (show¬dh s from fun h=>q h.1));clear q;go_wp2_with fail;go_ret;exact⟨aa D.o.symm,B.o⟩
theorem qm(b:Bool)(w:World):Calls Tryz.prog 240 #[.bool b] w fun e w'=>e=.returned (.int .i64 (if b then 1 else 0))∧w=w':=by
 cases b<;>
 ·skip
  go_in;go_wp2_with fail;go_ret;exact⟨rfl,rfl⟩
theorem lW(n t:Int)(w:World):Qz 217 #[.int .i64 n,.int .i64 t] w (.int .i64 (mY n t)):=by
 by_cases q:t=1
 ·subst q
  delta Qz;go_in;go_wp2_with fail;refine(ou _ _).mono ?_;rintro e w' ⟨rfl,rfl⟩;go_wp2_with fail;go_ret;exact⟨rfl,Gr.refl _⟩
 ·by_cases s:t=2
  ·subst s
   delta Qz;go_in;go_wp2_with fail;go_ret;exact⟨rfl,Gr.refl _⟩
  ·by_cases B:t=3
   ·subst B
    delta Qz;go_in
    go_wp2_with (first|(go_at_call 240;refine(qm _ _).mono ?_;rintro e w' ⟨rfl,rfl⟩))
    all_goals
     go_ret;refine⟨aC ?_,Gr.refl _⟩;unfold mY
     by_cases h:n=0<;>simp_all
   ·by_cases D:t=4
    ·subst D
     by_cases h:0≤n∧n≤999
     ·skip
      delta Qz;go_in;go_wp2_with fail;refine(fJ _ _ _ _ h.1 h.2).mono ?_;rintro e w' ⟨rfl,E,rfl⟩;go_wp2_with fail;go_ret;exact⟨aC (by unfold mY;simp[h]),gd⟩
     ·have H:=Kz (show n<0∨999<n by omega)
      delta Qz;go_in;go_wp2_with fail;refine(eu _ _ _ _ H.o).mono ?_;rintro e w' ⟨rfl,E,rfl⟩;go_wp2_with fail;go_ret;exact⟨aC (by unfold mY;simp[h]),gd⟩
    ·have J:(t==1)=false:=by simp[q]
     have K:(t==2)=false:=by simp[s]
     have O:(t==3)=false:=by simp[B]
     have T:(t==4)=false:=by simp[D]
     have I:=Kz (show mY n t=0 by unfold mY;rw[if_neg q,if_neg s,if_neg B,if_neg D]);clear q s B D;delta Qz;go_in;go_wp2_with fail;go_ret;exact⟨aC I.o.symm,gd⟩
theorem wU(n t:Int)(w:World):Qz 157 #[.int .i64 n,.int .i64 t] w (.bool (pB (eG n t))):=by
 by_cases s:1≤t∧t≤4
 ·obtain⟨v,D⟩:=nm (mY n t)
  have B:=Kz D;have q:=Kz s;clear D s;delta Qz;go_in;go_wp2_with fail;refine(fJ _ _ _ _ q.o.1 q.o.2).mono ?_;rintro e w' ⟨rfl,E,rfl⟩;go_wp2_with fail;refine(lW n t _).mono ?_;rintro e w' ⟨rfl,I,rfl⟩;rw[←B.o];go_wp2_with fail;go_ret;refine⟨aa ?_,gd⟩
  by_cases h:v=n
  ·rw[bQ ⟨q.o,by rw[←B.o];exact h⟩];simp[h]
  ·rw[bz fun k=>h (by rw[B.o];exact k.2)];simp[h]
 ·have q:=Kz (show t<1∨4<t by omega)
  have H:=Kz (bz (show¬eG n t from fun h=>s h.1));clear s;delta Qz;go_in;go_wp2_with fail;refine(eu _ _ _ _ q.o).mono ?_;rintro e w' ⟨rfl,E,rfl⟩;go_wp2_with fail;go_ret;exact⟨aa H.o.symm,gd⟩
def EG(n:Int)(w:World)(e:Ending)(w':World):Prop:=e=.returned (.tuple #[.int .i64 (opT n).1,.int .i64 (opT n).2.1,.int .i64 (opT n).2.2])∧Gr w w'
theorem uK(n:Int)(w:World):Calls Tryz.prog 237 #[.int .i64 n] w (EG n w):=by
 unfold EG
 by_cases B:1≤n∧n≤5
 ·have h:=Kz (show opT n=(1,1,1) by unfold opT;rw[if_pos B])
  go_in;go_wp2_with fail;refine(fJ _ _ _ _ B.1 B.2).mono ?_;rintro e w' ⟨rfl,K,rfl⟩;go_wp2_with fail;exact bodyPost_ret (v:=.tuple #[.int .i64 1,.int .i64 1,.int .i64 1]) (by simp[results,Tryz.results237,go_sem]) rfl ⟨by rw[h.o],gd⟩
 ·have D:=Kz (show n<1∨5<n by omega)
  by_cases H:6≤n∧n≤8
  ·have h:=Kz (show opT n=(2,2,2) by unfold opT;rw[if_neg B,if_pos H])
   go_in;go_wp2_with fail;refine(eu _ _ _ _ D.o).mono ?_;rintro e w' ⟨rfl,K,rfl⟩;go_wp2_with fail;refine(fJ _ _ _ _ H.1 H.2).mono ?_;rintro e w' ⟨rfl,O,rfl⟩;go_wp2_with fail;exact bodyPost_ret (v:=.tuple #[.int .i64 2,.int .i64 2,.int .i64 2]) (by simp[results,Tryz.results237,go_sem]) rfl ⟨by rw[h.o],gd⟩
  ·have I:=Kz (show n<6∨8<n by omega)
   by_cases J:n=9
   ·have h:=Kz (show opT n=(1,1,3) by rw[J];decide)
    have Y:(n==9)=true:=by simp[J]
    clear B H J;go_in;go_wp2_with fail;refine(eu _ _ _ _ D.o).mono ?_;rintro e w' ⟨rfl,K,rfl⟩;go_wp2_with fail;refine(eu _ _ _ _ I.o).mono ?_;rintro e w' ⟨rfl,O,rfl⟩;go_wp2_with fail;exact bodyPost_ret (v:=.tuple #[.int .i64 1,.int .i64 1,.int .i64 3]) (by simp[results,Tryz.results237,go_sem]) rfl ⟨by rw[h.o],gd⟩
   ·have Y:(n==9)=false:=by simp[J]
    by_cases q:n=10
    ·have h:=Kz (show opT n=(1,1,3) by rw[q];decide)
     have T:(n==10)=true:=by simp[q]
     clear B H J q;go_in;go_wp2_with fail;refine(eu _ _ _ _ D.o).mono ?_;rintro e w' ⟨rfl,K,rfl⟩;go_wp2_with fail;refine(eu _ _ _ _ I.o).mono ?_;rintro e w' ⟨rfl,O,rfl⟩;go_wp2_with fail;exact bodyPost_ret (v:=.tuple #[.int .i64 1,.int .i64 1,.int .i64 3]) (by simp[results,Tryz.results237,go_sem]) rfl ⟨by rw[h.o],gd⟩
    ·have T:(n==10)=false:=by simp[q]
     by_cases s:n=11
     ·have h:=Kz (show opT n=(2,1,3) by rw[s];decide)
      have U:(n==11)=true:=by simp[s]
      clear B H J q s;go_in;go_wp2_with fail;refine(eu _ _ _ _ D.o).mono ?_;rintro e w' ⟨rfl,K,rfl⟩;go_wp2_with fail;refine(eu _ _ _ _ I.o).mono ?_;rintro e w' ⟨rfl,O,rfl⟩;go_wp2_with fail;exact bodyPost_ret (v:=.tuple #[.int .i64 2,.int .i64 1,.int .i64 3]) (by simp[results,Tryz.results237,go_sem]) rfl ⟨by rw[h.o],gd⟩
     ·have U:(n==11)=false:=by simp[s]
      by_cases E:n=12
      ·have h:=Kz (show opT n=(2,1,2) by rw[E];decide)
       have X:(n==12)=true:=by simp[E]
       clear B H J q s E;go_in;go_wp2_with fail;refine(eu _ _ _ _ D.o).mono ?_;rintro e w' ⟨rfl,K,rfl⟩;go_wp2_with fail;refine(eu _ _ _ _ I.o).mono ?_;rintro e w' ⟨rfl,O,rfl⟩;go_wp2_with fail;exact bodyPost_ret (v:=.tuple #[.int .i64 2,.int .i64 1,.int .i64 2]) (by simp[results,Tryz.results237,go_sem]) rfl ⟨by rw[h.o],gd⟩
      ·have X:(n==12)=false:=by simp[E]
       have h:=Kz (show opT n=(0,0,0) by unfold opT;rw[if_neg B,if_neg H,if_neg (by omega),if_neg s,if_neg E]);clear B H J q s E;go_in;go_wp2_with fail;refine(eu _ _ _ _ D.o).mono ?_;rintro e w' ⟨rfl,K,rfl⟩;go_wp2_with fail;refine(eu _ _ _ _ I.o).mono ?_;rintro e w' ⟨rfl,O,rfl⟩;go_wp2_with fail;exact bodyPost_ret (v:=.tuple #[.int .i64 0,.int .i64 0,.int .i64 0]) (by simp[results,Tryz.results237,go_sem]) rfl ⟨by rw[h.o],gd⟩
theorem Ai{s:ByteArray}:s.toList.isEmpty=true↔s=ByteArray.empty:=by
 rw[List.isEmpty_iff];constructor
 ·intro h
  exact str_inj (by rw[h,ByteArray.toList_eq];rfl)
 ·rintro rfl
  rw[ByteArray.toList_eq];rfl
theorem AL{p:{d:Nat}→aA d→Prop}{q6:List (GE d)}:jh p (d+1) ((q0,q1,q2,q3,q4,q5,q6):aA d)↔p ((q0,q1,q2,q3,q4,q5,q6):aA d)∧∀z∈q6,jh p d z:=Iff.rfl
theorem wE{q6:List (GE d)}:cZ (d+1) ((q0,q1,q2,q3,q4,q5,q6):aA d)=1+(q6.map (cZ d)).sum:=rfl
theorem lI{α:Type}(f:α→Nat)(xs:List α)(h:k<xs.length):((xs.take (k+1)).map f).sum=((xs.take k).map f).sum+f xs[k]:=by
 rw[List.take_succ_eq_append_getElem h,map_append,List.sum_append];simp
theorem nu{α:Type}(f:α→Nat)(xs:List α)(k:Nat):((xs.take k).map f).sum≤(xs.map f).sum:=by
 conv=>rhs;rw[←List.take_append_drop k xs,map_append,List.sum_append]
 omega
def EA(m:Nat)(n:Int)(w:World)(e:Ending)(w':World):Prop:=∃r:Int,e=.returned (.int .i64 r)∧-1≤r∧((m:Int)≤n→r=n - m)∧(n<(m:Int)→r<0)∧Gr w w'
theorem uk(hE:∀(fp:List Nat) (cs:Array Value) (x:GE d) (n:Int) (w:World) (hx:Rd.rd fp w cs.toList x) (h0:0≤n) (h1:n≤1048576),Calls Tryz.prog 191 #[.agg cs,.int .i64 n] w (EA (cZ d x) n w))
  (fp:List Nat) (cs:Array Value) (x:aA d) (n:Int) (w:World) (hx:Rd.rd fp w cs.toList x) (h0:0≤n) (h1:n≤1048576):Calls Tryz.prog 191 #[.agg cs,.int .i64 n] w (EA (cZ (d+1) x) n w):=by
 obtain⟨q0,q1,q2,q3,q4,q5,q6,J,K,bN,rfl,rfl,-,bV,cK,cO,dz,dA,dC,O,bK,bL⟩:=KU hx;have E:=O.op3;have ah:=Kz O;clear hx;rw[wE];have dG:IntKind.i64.wrap (n - 1)=n - 1:=IntWalk.i64_in _ (by omega);go_in;go_wp2_with fail;generalize q:w.alloc (.cells #[.int .i64 q0,.int .i64 q1,.int .i64 q2,.int .i64 q3,.string q4,.string q5,.slice J q6.length K] 115)=B;have gB:Gr w B:=gb q;have b0:B.cell? ⟨w.heap.size,0,none⟩=some (.int .i64 q0):=by rw[←q];exact aJ rfl rfl
 have b1:B.cell? ⟨w.heap.size,1,none⟩=some (.int .i64 q1):=by rw[←q];exact aJ rfl rfl
 have b2:B.cell? ⟨w.heap.size,2,none⟩=some (.int .i64 q2):=by rw[←q];exact aJ rfl rfl
 have b3:B.cell? ⟨w.heap.size,3,none⟩=some (.int .i64 q3):=by rw[←q];exact aJ rfl rfl
 have b4:B.cell? ⟨w.heap.size,4,none⟩=some (.string q4):=by rw[←q];exact aJ rfl rfl
 have b5:B.cell? ⟨w.heap.size,5,none⟩=some (.string q5):=by rw[←q];exact aJ rfl rfl
 have b6:B.cell? ⟨w.heap.size,6,none⟩=some (.slice J q6.length K):=by rw[←q];exact aJ rfl rfl
 have ai:=Kz gB;have HB:=Kz (And.intro b0 (And.intro b1 (And.intro b2 (And.intro b3 (And.intro b4 (And.intro b5 b6))))));clear q gB b0 b1 b2 b3 b4 b5 b6
 go_loopw [5,1] (fun s5 s1 wr=>∃(k:Nat) (m:Int),k≤q6.length∧-1≤m∧m≤n∧Ky ((1+((q6.take k).map (cZ d)).sum:Nat)≤n→m=n - (1+((q6.take k).map (cZ d)).sum:Nat))∧Ky (n<((1+((q6.take k).map (cZ d)).sum:Nat):Int)→m<0)∧Ky (Gr B wr)∧s5=.int .i64 k∧s1=.int .i64 m) (fun s5 _ _=>q6.length - (intOf s5).toNat)
 case atStart=>exact⟨0,n - 1,by omega,by omega,by omega,Kz (fun _=>by simp),Kz (fun h=>by simp at h;omega),Kz (Gr.refl _),rfl,rfl⟩
 case round=>
  obtain⟨k,m,hk,T,dL,I,HL,HG,rfl,rfl⟩:=hrel
  rename World=>W1
  have hle:=nu (cZ d) q6 k;have aj:=Kz hle;clear hle;have y6:=HG.o.keep HB.o.2.2.2.2.2.2;have s:=Kz (ai.o.trans HG.o)
  by_cases H:k<q6.length
  ·have U:=Kz (lI (cZ d) q6 H)
   by_cases hm:0≤m
   ·skip
    obtain⟨d1,rfl⟩:∃e,d=e+1:=by
     cases d with
     |zero=>exact PEmpty.elim (q6[k])
     |succ e=>exact⟨e,rfl⟩
    obtain⟨b,off,rfl,hb⟩:=E k H;obtain⟨p0,p1,p2,p3,p4,p5,p6,dU,dW,eH,fe,au,ax,ay,aL,aN,aS,aV,aZ,bg,-,-,z0,z1,z2,z3,z4,z5,z6,zb⟩:=Lc ah.o H s.o;have k0:(0:Int)≤(k:Int):=by omega
    have k1:(k:Int)<(q6.length:Int):=by omega
    have iw:=zI1 k (by omega);clear E ay aL aN aS aV aZ bg;go_wp2_with fail;refine(hE _ _ q6[k] m _ (Rd.gr (by rw[←au.o];exact ax.o) s.o) hm (by omega)).mono ?_;rintro e w' ⟨r,rfl,fu,X,Y,g2⟩;have bq:=Kz g2;have Z:=Kz X;have ae:=Kz Y;clear g2 X Y;go_wp2_with fail
    have D:((1+((q6.take k).map (cZ (d1+1))).sum:Nat):Int)≤n:=by
     rcases lt_or_le n ((1+((q6.take k).map (cZ (d1+1))).sum:Nat):Int) with h|h
     ·have:=HL.o h;omega
     ·exact h
    have fw:=I.o D
    have bB:r≤n:=by
     rcases lt_or_le m (cZ _ q6[k]:Int) with h|h
     ·have:=ae.o h;omega
     ·have:=Z.o h;omega
    refine⟨⟨k+1,r,by omega,by omega,bB,Kz (fun h=>?_),Kz (fun h=>?_),Kz (HG.o.trans bq.o),by go_num,rfl⟩,by simp[intOf];omega⟩
    ·rw[U.o] at h ⊢
     have:=Z.o (by omega);omega
    ·rw[U.o] at h
     exact ae.o (by omega)
   ·have D:n<((1+((q6.take k).map (cZ d)).sum:Nat):Int):=by
     rcases lt_or_le n ((1+((q6.take k).map (cZ d)).sum:Nat):Int) with h|h
     ·exact h
     ·have:=I.o h;omega
    have bD:=Kz D;clear D;go_wp2_with fail;go_ret;exact⟨m,rfl,T,fun h=>by have h1:=aj.o;have h2:=bD.o;omega,fun _=>by omega,s.o⟩
  ·have bH:k=q6.length:=by omega
   subst bH;rw[take_length] at I HL;go_wp2_with fail
   all_goals
    go_ret;exact⟨m,rfl,T,I.o,HL.o,s.o⟩
theorem rP:(d:Nat)→∀(fp:List Nat) (cs:Array Value) (x:GE d) (n:Int) (w:World) (h:Rd.rd fp w cs.toList x) (q:0≤n) (s:n≤1048576),Calls Tryz.prog 191 #[.agg cs,.int .i64 n] w (EA (cZ d x) n w)
 |0=>by intro fp cs x;exact PEmpty.elim x
 |d+1=>uk (rP d)
theorem xk{d:Nat}(f:GE d→Nat)(xs:List (GE d)):∀m:Nat,(xs.map f).foldl max m=max m ((xs.map f).foldl max 0):=by
 induction xs with
 |nil=>intro m;simp
 |cons x xs h=>
  intro m
  simp only[map_cons,foldl_cons];rw[h (max m (f x)),h (max 0 (f x))];omega
theorem EU{d:Nat}(f:GE d→Nat)(xs:List (GE d))(h:k<xs.length):f xs[k]≤(xs.map f).foldl max 0:=by
 induction xs generalizing k with
 |nil=>simp at h
 |cons x xs q=>
  simp only[map_cons,foldl_cons];rw[xk f xs]
  cases k with
  |zero=>simp only[List.getElem_cons_zero];omega
  |succ k=>
   have:=q (k:=k) (by simpa using h);simp only[List.getElem_cons_succ];omega
theorem sU{d:Nat}(f:GE d→Nat)(xs:List (GE d))(k:Nat):((xs.take k).map f).foldl max 0≤(xs.map f).foldl max 0:=by
 conv=>rhs;rw[←List.take_append_drop k xs,map_append,List.foldl_append]
 rw[xk f (xs.drop k)];omega
theorem Eb:∀(d:Nat) (x:GE d),iP d x≤wtE d x+1
 |0,x=>PEmpty.elim x
 |d+1,x=>by
  obtain⟨q0,q1,q2,q3,q4,q5,q6⟩:=(x:aA d)
  show(q6.map (iP d)).foldl max 0+1≤(q4.size+q5.size+wtL (wtE d) q6)+1
  have:∀xs:List (GE d),(xs.map (iP d)).foldl max 0≤wtL (wtE d) xs:=by
   intro xs
   induction xs with
   |nil=>simp
   |cons y h q=>
    simp only[map_cons,foldl_cons,wtL,List.sum_cons,List.length_cons] at q ⊢;rw[xk (iP d) h];have:=Eb d y;omega
  have:=this q6;omega
theorem GJ{d:Nat}{q6:List (GE d)}:iP (d+1) ((q0,q1,q2,q3,q4,q5,q6):aA d)=(q6.map (iP d)).foldl max 0+1:=rfl
theorem BS{d:Nat}{xs:List (GE d)}(h:k<xs.length):((xs.take (k+1)).map (iP d)).foldl max 0=max (((xs.take k).map (iP d)).foldl max 0) (iP d xs[k]):=by
 rw[List.take_succ_eq_append_getElem h,map_append,List.foldl_append];rfl
def r9(m:Int)(w:World)(e:Ending)(w':World):Prop:=e=.returned (.int .i64 m)∧Gr w w'
theorem rW(hE:∀(fp:List Nat) (cs:Array Value) (x:GE d) (w:World) (O:Rd.rd fp w cs.toList x) (hl:iP d x≤2097152),Calls Tryz.prog 192 #[.agg cs] w (r9 (iP d x:Nat) w))
  (fp:List Nat) (cs:Array Value) (x:aA d) (w:World) (O:Rd.rd fp w cs.toList x) (Y:iP (d+1) x≤2097152):Calls Tryz.prog 192 #[.agg cs] w (r9 (iP (d+1) x:Nat) w):=by
 obtain⟨q0,q1,q2,q3,q4,q5,q6,H,I,bH,rfl,rfl,-,bK,bL,bN,bV,cK,cO,J,bB,bD⟩:=KU O;have s:=J.op3;have Z:=Kz J;clear O;rw[GJ] at Y ⊢;go_in;go_wp2_with fail;generalize h:w.alloc (.cells #[.int .i64 q0,.int .i64 q1,.int .i64 q2,.int .i64 q3,.string q4,.string q5,.slice H q6.length I] 115)=B;have gB:Gr w B:=gb h;have b0:B.cell? ⟨w.heap.size,0,none⟩=some (.int .i64 q0):=by rw[←h];exact aJ rfl rfl
 have b1:B.cell? ⟨w.heap.size,1,none⟩=some (.int .i64 q1):=by rw[←h];exact aJ rfl rfl
 have b2:B.cell? ⟨w.heap.size,2,none⟩=some (.int .i64 q2):=by rw[←h];exact aJ rfl rfl
 have b3:B.cell? ⟨w.heap.size,3,none⟩=some (.int .i64 q3):=by rw[←h];exact aJ rfl rfl
 have b4:B.cell? ⟨w.heap.size,4,none⟩=some (.string q4):=by rw[←h];exact aJ rfl rfl
 have b5:B.cell? ⟨w.heap.size,5,none⟩=some (.string q5):=by rw[←h];exact aJ rfl rfl
 have b6:B.cell? ⟨w.heap.size,6,none⟩=some (.slice H q6.length I):=by rw[←h];exact aJ rfl rfl
 have ae:=Kz gB;have HB:=Kz (And.intro b0 (And.intro b1 (And.intro b2 (And.intro b3 (And.intro b4 (And.intro b5 b6))))));clear h gB b0 b1 b2 b3 b4 b5 b6
 go_loopw [4,3] (fun T s3 wr=>∃(k m:Nat),k≤q6.length∧Ky (m=((q6.take k).map (iP d)).foldl max 0)∧Ky (Gr B wr)∧T=.int .i64 k∧s3=.int .i64 m) (fun T _ _=>q6.length - (intOf T).toNat)
 case atStart=>exact⟨0,0,by omega,Kz rfl,Kz (Gr.refl _),rfl,rfl⟩
 case round=>
  obtain⟨k,m,hk,E,U,rfl,rfl⟩:=hrel
  rename World=>W1
  have dz:m≤2097152:=by have h1:=E.o;have h2:=sU (iP d) q6 k;omega
  have y6:=U.o.keep HB.o.2.2.2.2.2.2;have D:=Kz (ae.o.trans U.o)
  by_cases q:k<q6.length
  ·have ah:=Kz (BS q)
   have K:iP d q6[k]≤2097152:=by have:=EU (iP d) q6 q;omega
   have ai:=Kz K;obtain⟨r,X⟩:=nm (iP d q6[k]);rw[←X] at K;have HR:=Kz X;clear X
   obtain⟨d1,rfl⟩:∃e,d=e+1:=by
    cases d with
    |zero=>exact PEmpty.elim (q6[k])
    |succ e=>exact⟨e,rfl⟩
   obtain⟨b,off,rfl,hb⟩:=s k q;obtain⟨p0,p1,p2,p3,p4,p5,p6,dA,dC,dG,dL,aj,au,ax,ay,aL,aN,aS,aV,aZ,-,-,z0,z1,z2,z3,z4,z5,z6,zb⟩:=Lc Z.o q D.o;have k0:(0:Int)≤(k:Int):=by omega
   have k1:(k:Int)<(q6.length:Int):=by omega
   have iw:=zI1 k (by omega);clear s ax ay aL aN aS aV aZ;go_wp2_with fail;refine(hE _ _ q6[k] _ (Rd.gr (by rw[←aj.o];exact au.o) D.o) ai.o).mono ?_;rintro e w' ⟨rfl,g2⟩;rw[←HR.o];have bg:=Kz g2;clear g2;go_wp2_with fail;refine(mV _ _ _).mono ?_;rintro e w' ⟨rfl,rfl⟩;go_wp2_with fail;refine⟨⟨k+1,max m r,by omega,Kz (by rw[ah.o,←E.o,←HR.o]),Kz (U.o.trans bg.o),by go_num,?_⟩,by simp[intOf];omega⟩
   congr 1
   omega
  ·have bq:k=q6.length:=by omega
   subst bq;rw[take_length] at E;have dU:=zI1 m (by omega);go_wp2_with fail;go_ret;exact⟨aC (by rw[←E.o];omega),D.o⟩
theorem pX:(d:Nat)→∀(fp:List Nat) (cs:Array Value) (x:GE d) (w:World) (h:Rd.rd fp w cs.toList x) (q:iP d x≤2097152),Calls Tryz.prog 192 #[.agg cs] w (r9 (iP d x:Nat) w)
 |0=>by intro fp cs x;exact PEmpty.elim x
 |d+1=>rW (pX d)
def jL(q0 q1 q2 q3:Int)(q4 q5:ByteArray)(n:Nat):Bool:=
 (decide ((n:Int)=(eY q0:Int)))&&(((q0==3)||(q0==6))||(q2==0))&&(((q0==3)||(q0==8))||q5.toList.isEmpty)&&(((q0==1)||(q0==4))||(q1==0))&&((q0==1)||(q3==0))&&((q0==8)||q4.toList.isEmpty)
theorem jc(q0 q1 q2 q3:Int)(q4 q5:ByteArray)(q6:List (GE d)):jL q0 q1 q2 q3 q4 q5 q6.length=pB (xJ ((q0,q1,q2,q3,q4,q5,q6):aA d)):=by
 rw[Bool.eq_iff_iff,dx];unfold jL xJ;simp only[Bool.and_eq_true,Bool.or_eq_true,beq_iff_eq,Ai,decide_eq_true_eq];constructor
 ·rintro⟨⟨⟨⟨⟨h,q⟩,s⟩,B⟩,D⟩,E⟩
  exact⟨by show q6.length=_;omega,by show q0=3∨q0=6∨q2=0;omega,by show q0=3∨q0=8∨q5=_;exact or_assoc.1 s,by show q0=1∨q0=4∨q1=0;omega,D,E⟩
 ·rintro⟨h,q,s,B,D,E⟩
  have h:q6.length=eY q0:=h;have q:q0=3∨q0=6∨q2=0:=q;have B:q0=1∨q0=4∨q1=0:=B;exact⟨⟨⟨⟨⟨by omega,by omega⟩,or_assoc.2 s⟩,by omega⟩,D⟩,E⟩
theorem BH(fp:List Nat)(cs:Array Value)(x:aA d)(w:World)(D:Rd.rd fp w cs.toList x):Qz 279 #[.agg cs] w (.bool (pB (xJ x))):=by
 obtain⟨q0,q1,q2,q3,q4,q5,q6,I,J,K,rfl,rfl,-,O,T,U,X,Y,Z,E,h,q⟩:=KU D;have s:=E.op3;clear D;rw[←jc];obtain⟨R,B⟩:=nm (jL q0 q1 q2 q3 q4 q5 q6.length);rw[←B];have H:=Kz B;clear B;delta Qz;go_in;go_wp2_with fail
 go_ways
 all_goals
  go_ret;refine⟨aa ?_,gd⟩;rw[H.o];clear H h q s
  simp_all [jL,eY]
def jg(q0 q1 q2 q3:Int)(q s B h:Bool):Bool:=
 (decide (1≤q0)&&decide (q0≤8))&&q&&(if q0=1 then(decide (1≤q3)&&decide (q3≤3))&&s&&decide (0≤q1) else if q0=3 then(decide (0≤q2)&&decide (q2≤3))&&h else if q0=6 then decide (0≤q2)&&decide (q2≤3) else if q0=4 then decide (1≤q1)&&decide (q1≤12) else if q0=8 then B&&h else true)
theorem jd(q0 q1 q2 q3:Int)(q4 q5:ByteArray)(q6:List (GE d)):jg q0 q1 q2 q3 (pB (xJ ((q0,q1,q2,q3,q4,q5,q6):aA d))) (pB (eG q1 q3)) (pB (dh q4)) (pB (dh q5))=pB (jJ ((q0,q1,q2,q3,q4,q5,q6):aA d)):=by
 rw[Bool.eq_iff_iff,dx];unfold jg jJ;generalize xJ ((q0,q1,q2,q3,q4,q5,q6):aA d)=b
 show _↔(1≤q0∧q0≤8)∧b∧(q0=1→(1≤q3∧q3≤3)∧eG q1 q3∧0≤q1)∧(q0=3→(0≤q2∧q2≤3)∧dh q5)∧(q0=6→0≤q2∧q2≤3)∧(q0=4→1≤q1∧q1≤12)∧(q0=8→dh q4∧dh q5)
 by_cases h:q0=1
 ·subst h;simp[dx,and_assoc]
 by_cases q:q0=3
 ·subst q;simp[dx,and_assoc]
 by_cases s:q0=6
 ·subst s;simp[dx,and_assoc]
 by_cases B:q0=4
 ·subst B;simp[dx,and_assoc]
 by_cases D:q0=8
 ·subst D;simp[dx,and_assoc]
 simp[h,q,s,B,D,dx]
def gZ(N:Nat)(α:Type)[Rd α](P:Program)(t:TypeId):Prop:=
 P.cellsOf t=Rd.n α∧∀{H:Type} (enc:TypeId×Value→H) (w:World) (fuel:Nat) (cs:List Value) (d:DataW H) (h:List MemPlace),fuel≤N→
  DataW.trod enc P w 0 (fun _=>true) true fuel t cs=some (d,h)→(∀n∈d.weights P t,n≤reachBytes)→w.noneFrozen h→∃fp x,Rd.rd (α:=α) fp w cs x
theorem lh.toN{α:Type}[Rd α]{P:Program}(N:Nat)(h:lh α P t):gZ N α P t:=
 ⟨h.1,fun enc w fuel cs d q _ s B D=>h.2 enc w fuel cs d q s B D⟩
theorem gZ.less{α:Type}[Rd α]{P:Program}(h:gZ (N+1) α P t):gZ N α P t:=
 ⟨h.1,fun enc w fuel cs d q E s B D=>h.2 enc w fuel cs d q (by omega) s B D⟩
theorem lv{α:Type}[Rd α]{P:Program}{e:TypeId}(Y:P.underlying t=some (.slice e))(hc:P.cellsOf t=1)(he:gZ N α P e)(ae:decide (1≤P.bytesOf e)=true):gZ (N+1) (List α) P t:=by
 have hb:=of_decide_eq_true ae;obtain⟨Z,he⟩:=he;refine⟨hc,fun{H} enc w fuel cs d ps hN h X hfz=>?_⟩;rcases DataW.trod_slice Y h with⟨rfl,J⟩|⟨a,len,cap,elems,rest,n,ax,rfl,J,_,hl,hm,hlen,ah,ai,_⟩
 ·exact⟨[],[],_,rfl,SlR.nil w⟩
 ·have ay:=(ai rfl).1
  simp only[Prod.mk.injEq] at J;obtain⟨J,aj⟩:=J;subst J aj
  have K:cap≤bn:=by
   have:=X ((elems.length+rest.length)*P.bytesOf e) (by simp[DataW.weights,Y]);have e1:elems.length+rest.length=cap:=by omega
   rw[e1] at this;have h2:cap*1≤cap*P.bytesOf e:=Nat.mul_le_mul_left _ hb;have h3:reachBytes=bn:=by decide
   omega
  have each:∀i,i<len→∃b off q fq x,a.add (i*P.cellsOf e)=⟨b,off,none⟩∧jP w b off q∧Rd.rd (α:=α) fq w q x:=by
   intro i D
   have hx:=ah i D;have E:i<elems.length:=by omega
   rw[List.getElem?_eq_getElem E] at hx;obtain⟨q,h1,h2⟩:=Option.bind_eq_some_iff.1 hx;obtain⟨b,off,T,B,_⟩:=BO h1 (by rw[Z];exact Rd.pos)
   obtain⟨fq,x,O⟩:=he enc w n q (elems[i]).1 (elems[i]).2 (by omega) h2 (fun k hk=>X k (by
    simp only[DataW.weights,Y,List.mem_cons,List.mem_append];exact .inr (.inl (lL (List.mem_map_of_mem (getElem_mem E)) k hk))))
    (fun b o hm=>hfz b o (List.mem_append_right _ (List.mem_flatMap.2 ⟨_,List.mem_append_left _ (getElem_mem E),hm⟩)))
   exact⟨b,off,q,fq,x,T,B,O⟩
  by_cases h0:len=0
  ·subst h0
   exact⟨[],[],_,rfl,some a,cap,rfl,by simp,by simp,.inl ⟨rfl,rfl⟩⟩
  ·obtain⟨I,s,_,_,x0,au,_,_⟩:=each 0 (by omega)
   have ea:a=⟨I,s,none⟩:=by simpa[Addr.add] using au
   subst ea
   have U:∀i,∃y:List Nat×α,i<len→∃q,jP w I (s+i*Rd.n α) q∧Rd.rd y.1 w q y.2:=by
    intro i
    by_cases D:i<len
    ·obtain⟨b,off,q,fq,x,T,B,O⟩:=each i D
     refine⟨(fq,x),fun _=>⟨q,?_,O⟩⟩
     have e:(⟨I,s,none⟩:Addr).add (i*P.cellsOf e)=⟨I,s+i*P.cellsOf e,none⟩:=by
      unfold Addr.add
      split
      ·rename_i e;rw[e];rfl
      ·rfl
     rw[e] at T;injection T with e1 e2;subst e1 e2
     rwa [Z] at B
    ·exact⟨([],x0),fun h=>absurd h D⟩
   obtain⟨f,hf⟩:=Classical.axiomOfChoice U;refine⟨_,(List.range len).map fun i=>(f i).2,_,rfl,some ⟨I,s,none⟩,cap,by simp,by simpa using hl,(by have this:len≤bn:=Nat.le_trans hl K;simpa using this),.inr ⟨I,s,(List.range len).map fun i=>(f i).1,by simp[h0],rfl,rfl,by simp,fun j hj=>hfz _ _ (List.mem_append_left _ ?_),fun i D E=>?_⟩⟩
   ·simp only[List.length_map,List.length_range] at hj
    refine List.mem_map.2 ⟨j,List.mem_range.2 ?_,rfl⟩
    rw[Z,hlen];exact Nat.lt_of_lt_of_le hj (Nat.mul_le_mul_right _ (by omega))
   ·simp only[List.length_map,List.length_range] at D
    obtain⟨q,B,O⟩:=hf i D;exact⟨q,B,by simpa using O⟩
structure SegN(N:Nat)(α:Type)[Rd α](P:Program)(off:Nat)(fs:List Field):Prop where
 o:∀(H:Type) (enc:TypeId×Value→H) (w:World) (cs:List Value),cs.length=off+Rd.n α→
  (∀f∈fs,∃fuel d ps,fuel≤N∧DataW.trod enc P w 0 (fun _=>true) true fuel f.type ((cs.drop f.offset).take (P.cellsOf f.type))=some (d,ps)∧(∀n∈d.weights P f.type,n≤reachBytes)∧w.noneFrozen ps)→
  ∃fp x,Rd.rd (α:=α) fp w (cs.drop off) x
theorem nW{α:Type}[Rd α]{P:Program}{off:Nat}{f:Field}(q:gZ N α P f.type)(B:f.offset=off):SegN N α P off [f]:=by
 refine⟨fun H enc w cs J D=>?_⟩;obtain⟨fuel,d,E,s,h,hw,I⟩:=D f (by simp);rw[B,q.1,List.take_of_length_le (by simp;omega)] at h;exact q.2 enc w fuel _ d E s h hw I
theorem fG{α β:Type}[Rd α][Rd β]{P:Program}{off:Nat}{f:Field}{q:List Field}(s:gZ N α P f.type)(E:f.offset=off)(I:SegN N β P (off+Rd.n α) q):SegN N (α×β) P off (f::q):=by
 refine⟨fun H enc w cs Y B=>?_⟩;obtain⟨fuel,d,J,D,h,hw,K⟩:=B f (by simp);rw[E,s.1] at h;obtain⟨f1,x,O⟩:=s.2 enc w fuel _ d J D h hw K;have X:Rd.n (α×β)=Rd.n α+Rd.n β:=rfl;obtain⟨f2,y,T⟩:=I.o H enc w cs (by omega) (fun g U=>B g (List.mem_cons_of_mem _ U));refine⟨f1++f2,(x,y),_,_,f1,f2,?_,rfl,O,T⟩;rw[←List.drop_drop,List.take_append_drop]
theorem jK{α:Type}[Rd α]{P:Program}{q:Array Field}(E:Nat)(I:P.underlying t=some (.struct q))(T:Rd.n α=E)(J:P.cellsOf t=E)(U:SegN N α P 0 q.toList):gZ (N+1) α P t:=by
 have hc:P.cellsOf t=Rd.n α:=J.trans T.symm;refine⟨hc,fun{H} enc w fuel cs d ps hN h hwt hfz=>?_⟩;obtain⟨xs,n,ae,B,hl,hlen,X⟩:=DataW.trod_struct I h;simp only[Prod.mk.injEq] at B;obtain⟨B,K⟩:=B;subst B K
 have:=U.o H enc w cs (by omega) (fun f Y=>by
  obtain⟨i,Z,rfl⟩:=List.mem_iff_getElem.1 Y;have D:i<q.size:=by simpa using Z
  have s:i<xs.length:=by omega
  have O:=X i q[i] (by simp[D]);rw[List.getElem?_eq_getElem s] at O;refine⟨n,(xs[i]).1,(xs[i]).2,by omega,by simpa using O,fun k hk=>hwt k ?_,fun b o hm=>hfz b o (List.mem_flatMap.2 ⟨_,getElem_mem s,hm⟩)⟩;simp only[DataW.weights,I];exact DataW.weights_mem_each (j:=i) (t:=q[i].type) (d:=(xs[i]).1) (by simp[D]) (by simp[List.getElem?_map,List.getElem?_eq_getElem s]) k (by simpa using hk))
 simpa using this
theorem Al(N:Nat):gZ N (List ByteArray) Tryz.prog 94:=
 (kN Tryz.underlying94 (by kernel_rfl) (eP Tryz.underlying9 (by kernel_rfl)) (by kernel_rfl)).toN N
theorem x8:lh aQ Tryz.prog 215:=by
 refine jD 4 Tryz.underlying215 rfl (by kernel_rfl) ?_
 refine jq ?_ rfl (jq ?_ rfl (jq ?_ rfl (oZ ?_ rfl)))
 ·exact(eP Tryz.underlying9 (by kernel_rfl))
 ·exact(gN Tryz.underlying3 (by kernel_rfl))
 ·exact(gN Tryz.underlying3 (by kernel_rfl))
 ·exact(wR Tryz.underlying4 (by kernel_rfl))
theorem Dq:lh bC Tryz.prog 92:=by
 refine jD 2 Tryz.underlying92 rfl (by kernel_rfl) ?_
 refine jq ?_ rfl (oZ ?_ rfl)
 ·exact(eP Tryz.underlying9 (by kernel_rfl))
 ·exact(kN Tryz.underlying90 (by kernel_rfl) x8 (by kernel_rfl))
theorem vJ:lh ag Tryz.prog 217:=by
 refine jD 2 Tryz.underlying217 rfl (by kernel_rfl) ?_
 refine jq ?_ rfl (oZ ?_ rfl)
 ·exact(gN Tryz.underlying3 (by kernel_rfl))
 ·exact(eP Tryz.underlying9 (by kernel_rfl))
theorem uS{d:Nat}(h:gZ d (GE d) Tryz.prog 220):gZ (d+1) (aA d) Tryz.prog 220:=by
 refine jK 7 Tryz.underlying220 rfl (by kernel_rfl) ?_
 refine fG ?_ rfl (fG ?_ rfl (fG ?_ rfl (fG ?_ rfl (fG ?_ rfl (fG ?_ rfl (nW ?_ rfl))))))
 ·exact(gN Tryz.underlying3 (by kernel_rfl)).toN _
 ·exact(gN Tryz.underlying3 (by kernel_rfl)).toN _
 ·exact(gN Tryz.underlying3 (by kernel_rfl)).toN _
 ·exact(gN Tryz.underlying3 (by kernel_rfl)).toN _
 ·exact(eP Tryz.underlying9 (by kernel_rfl)).toN _
 ·exact(eP Tryz.underlying9 (by kernel_rfl)).toN _
 ·exact(lv Tryz.underlying218 (by kernel_rfl) h (by kernel_rfl)).less
theorem Ff:(d:Nat)→gZ d (GE d) Tryz.prog 220
 |0=>⟨by show _=7;kernel_rfl,fun enc w fuel cs d q s h _ _=>by
   obtain rfl:fuel=0:=by omega
   simp[DataW.trod] at h⟩
 |d+1=>uS (Ff d)
theorem sZ(d:Nat):gZ d (aA d) Tryz.prog 220:=(uS (Ff d)).less
theorem yR(d:Nat):gZ d (aX d) Tryz.prog 222:=by
 refine gZ.less (jK 9 Tryz.underlying222 rfl (by kernel_rfl) ?_)
 refine fG ?_ rfl (nW ?_ rfl)
 ·exact vJ.toN _
 ·exact sZ d
theorem si(d:Nat):gZ d (aD d) Tryz.prog 225:=by
 refine gZ.less (jK 16 Tryz.underlying225 rfl (by kernel_rfl) ?_)
 refine fG ?_ rfl (fG ?_ rfl (fG ?_ rfl (nW ?_ rfl)))
 ·exact(eP Tryz.underlying9 (by kernel_rfl)).toN _
 ·exact(eP Tryz.underlying9 (by kernel_rfl)).toN _
 ·exact sZ d
 ·exact sZ d
theorem FH(d:Nat):gZ d (aW d) Tryz.prog 98:=by
 refine gZ.less (jK 6 Tryz.underlying98 rfl (by kernel_rfl) ?_)
 refine fG ?_ rfl (fG ?_ rfl (fG ?_ rfl (fG ?_ rfl (fG ?_ rfl (nW ?_ rfl)))))
 ·exact(eP Tryz.underlying9 (by kernel_rfl)).toN _
 ·exact(eP Tryz.underlying9 (by kernel_rfl)).toN _
 ·exact Al _
 ·exact(wR Tryz.underlying4 (by kernel_rfl)).toN _
 ·exact(lv Tryz.underlying95 (by kernel_rfl) (yR d) (by kernel_rfl)).less
 ·exact(lv Tryz.underlying96 (by kernel_rfl) (si d) (by kernel_rfl)).less
theorem yS(d:Nat):gZ d (af d) Tryz.prog 25:=by
 refine gZ.less (jK 2 Tryz.underlying25 rfl (by kernel_rfl) ?_)
 refine fG ?_ rfl (nW ?_ rfl)
 ·exact(kN Tryz.underlying22 (by kernel_rfl) Dq (by kernel_rfl)).toN _
 ·exact(lv Tryz.underlying23 (by kernel_rfl) (FH d) (by kernel_rfl)).less
theorem Bl:True∧∀{H:Type} (enc:TypeId×Value→H) (w:World) (fuel:Nat) (cs:List Value) (d:DataW H) (h:List MemPlace),
  DataW.trod enc Tryz.prog w 0 (fun _=>true) true fuel 25 cs=some (d,h)→(∀n∈d.weights Tryz.prog 25,n≤reachBytes)→w.noneFrozen h→∃fp x,Rd.rd (α:=af fuel) fp w cs x:=
 ⟨trivial,fun enc w fuel cs d h q s B=>(yS fuel).2 enc w fuel cs d h (Nat.le_refl _) q s B⟩
end Go.Proofs.YtdhighcpmcdmmaaGreat
