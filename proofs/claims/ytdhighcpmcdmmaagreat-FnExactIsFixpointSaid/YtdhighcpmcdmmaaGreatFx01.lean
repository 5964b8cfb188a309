/- Contracts and laws towards ReadsOf, part 2 of 54. No condition. -/
import Derived.Test.YtdhighcpmcdmmaaGreatFx00
import Derived.Test.YtdhighcpmcdmmaaGreatRows
import Derived.Test.YtdhighcpmcdmmaaGreatChecked
import Derived.JoinedOf
set_option maxHeartbeats 32000000
set_option maxRecDepth 10000
set_option linter.unusedVariables false
set_option linter.unusedSimpArgs false
namespace Go.Proofs.YtdhighcpmcdmmaaGreat
open Go.RowKit
theorem fI(x h q:Int)(w:World):
  Calls Tryz.prog 86 #[.int .i64 x,.int .i64 h,.int .i64 q] w fun e w'=>e=.returned (.bool (decide (h≤x)&&decide (x≤q)))∧w=w':=by
 go_in
 go_wp2
 all_goals(go_ret;refine⟨?_,rfl⟩;simp[*])
 omega
theorem di(x h q:Int)(w:World):
  Calls Tryz.prog 101 #[.int .i64 x,.int .i64 h,.int .i64 q] w fun e w'=>e=.returned (.bool (decide (h≤x)&&decide (x≤q)))∧w=w':=by
 go_in
 go_wp2
 all_goals(go_ret;refine⟨?_,rfl⟩;simp[*])
 omega
theorem fJ(x q s:Int)(w:World)(h:q≤x)(B:x≤s):
  Qz 86 #[.int .i64 x,.int .i64 q,.int .i64 s] w (.bool true):=
 (fI x q s w).mono fun e w' ⟨he,hw⟩=>⟨by rw[he,decide_eq_true h,decide_eq_true B];rfl,hw▸Gr.refl w⟩
theorem eu(x q s:Int)(w:World)(h:x<q∨s<x):
  Qz 86 #[.int .i64 x,.int .i64 q,.int .i64 s] w (.bool false):=
 (fI x q s w).mono fun e w' ⟨he,hw⟩=>⟨by rw[he,Bool.and_eq_false_iff.2 (h.imp (fun h=>decide_eq_false (by omega)) (fun h=>decide_eq_false (by omega)))],hw▸Gr.refl w⟩
theorem kC(x q s:Int)(w:World)(h:q≤x)(B:x≤s):
  Qz 101 #[.int .i64 x,.int .i64 q,.int .i64 s] w (.bool true):=
 (di x q s w).mono fun e w' ⟨he,hw⟩=>⟨by rw[he,decide_eq_true h,decide_eq_true B];rfl,hw▸Gr.refl w⟩
theorem mX(x q s:Int)(w:World)(h:x<q∨s<x):
  Qz 101 #[.int .i64 x,.int .i64 q,.int .i64 s] w (.bool false):=
 (di x q s w).mono fun e w' ⟨he,hw⟩=>⟨by rw[he,Bool.and_eq_false_iff.2 (h.imp (fun h=>decide_eq_false (by omega)) (fun h=>decide_eq_false (by omega)))],hw▸Gr.refl w⟩
theorem Ed(fp fq:List Nat)(u v:Value)(xs q:List Int)(w:World)(hu:SlR fp w u xs)(T:SlR fq w v q):
  Qz 14 #[u,v] w (.bool (decide (xs=q))):=by
 obtain⟨a,ca,rfl,h1,h2,U⟩:=hu.open;obtain⟨c,cc,rfl,g1,g2,X⟩:=T.open
 by_cases B:xs.length=q.length
 ·have J:=Kz B
  have Y:((xs.length:Int)!=(q.length:Int))=false:=by simp[B]
  clear B;delta Qz;go_in
  go_wp2
  go_loopw [5] (fun K wr=>∃k:Nat,k≤xs.length∧xs.take k=q.take k∧Gr w wr∧K=.int .i64 k) (fun K _=>xs.length - (intOf K).toNat)
  case atStart=>exact⟨0,by omega,rfl,Gr.refl w,rfl⟩
  case round=>
   obtain⟨k,hk,I,⟨x,rfl⟩,rfl⟩:=hrel
   by_cases D:k<xs.length
   ·have s:k<q.length:=by have:=J.o;omega
    obtain⟨b,off,rfl,hb⟩:=U k D;obtain⟨b',ae,rfl,ah⟩:=X k s;have x1:=(hu.fQ D).1;have x2:=(T.fQ s).1;have hT:=Kz I;clear U X I;go_wp2_with fail;refine wg ?_
    repeat(go_big_quiet_step (fail))
    refine wq fun nx=>?_
    go_wp2
    ·rename_i O
     go_ret;have H:xs[k]≠q[k]:=by simpa using O
     have E:xs≠q:=fun e=>H (by subst e;rfl)
     exact⟨aa (decide_eq_false E).symm,((Gr.refl w).ext _).ext _⟩
    ·rename_i O
     have H:xs[k]=q[k]:=by simpa using O
     refine⟨⟨k+1,by omega,?_,((Gr.refl w).ext _).ext _,by go_num⟩,by simp[intOf];omega⟩;rw[List.take_succ_eq_append_getElem D,List.take_succ_eq_append_getElem s,hT.o,H]
   ·have Z:k=xs.length:=by omega
    subst Z
    have e:xs=q:=by
     have h:=I;have h':=J.o;rw[List.take_length,h',List.take_length] at h;exact h
    have E:=Kz e;clear e I
    go_wp2
    go_ret;exact⟨aa (decide_eq_true E.o).symm,(Gr.refl w).ext _⟩
 ·have Y:((xs.length:Int)!=(q.length:Int))=true:=by simp;omega
  have e:xs≠q:=fun e=>B (by rw[e])
  have E:=Kz e;clear e B;delta Qz;go_in
  go_wp2
  go_ret;exact⟨aa (decide_eq_false E.o).symm,Gr.refl w⟩
theorem OT(fp:List Nat)(u:Value)(xs:List Int)(y:Int)(w:World)(hu:SlR fp w u xs):
  Qz 170 #[u,.int .i64 y] w (.int .i64 (idxOf (fun z=>y==z) xs)):=by
 obtain⟨a,U,rfl,X,Y,I⟩:=hu.open;delta Qz;go_in
 go_wp2
 go_loopw [8,5] (fun s K wr=>∃k:Nat,k≤xs.length∧(∀j (h:j<xs.length),j<k→(y==xs[j])=false)∧Gr w wr∧s=.int .i64 k) (fun s K _=>xs.length - (intOf s).toNat)
 case atStart=>exact⟨0,by omega,by omega,Gr.refl w,rfl⟩
 case round=>
  obtain⟨k,Z,J,⟨x,rfl⟩,rfl⟩:=hrel;have B:=Kz J;clear J
  by_cases q:k<xs.length
  ·obtain⟨b,off,rfl,hb⟩:=I k q
   have O:=(hu.fQ q).1;have z1:=blk O;clear I
   go_wp2
   ·rename_i D
    go_ret;exact⟨aC (iH q D B.o).symm,(Gr.refl w).ext _⟩
   ·rename_i D
    refine⟨⟨k+1,by omega,fun j E T=>?_,(Gr.refl w).ext _,by go_num⟩,by simp[intOf];omega⟩
    by_cases H:j<k
    ·exact B.o j E H
    ·obtain rfl:j=k:=by omega
     exact D
  ·go_wp2
   go_ret;exact⟨aC (gu fun j E=>B.o j E (by omega)).symm,(Gr.refl w).ext _⟩
theorem O1(fp:List Nat)(u:Value)(xs:List Int)(y:Int)(w:World)(hu:SlR fp w u xs):
  Qz 102 #[u,.int .i64 y] w (.bool (xs.any (fun z=>y==z))):=by
 delta Qz;go_in
 go_wp2_with (go_at_call 170;refine(OT fp _ _ _ _ hu).mono ?_;rintro e w1 ⟨rfl,h⟩)
 go_ret;refine⟨aa ?_,by assumption⟩;rw[Bool.eq_iff_iff,decide_eq_true_iff];exact iW
theorem Bp(fp:List Nat)(u:Value)(xs:List Int)(y:Int)(w:World)(hu:SlR fp w u xs):
  Qz 90 #[u,.int .i64 y] w (.bool (xs.any (fun z=>y==z))):=by
 obtain⟨a,O,rfl,T,U,H⟩:=hu.open;delta Qz;go_in
 go_wp2
 go_loopw [5] (fun s wr=>∃k:Nat,k≤xs.length∧(∀j (h:j<xs.length),j<k→(xs[j]==y)=false)∧Gr w wr∧s=.int .i64 k) (fun s _=>xs.length - (intOf s).toNat)
 case atStart=>exact⟨0,by omega,by omega,Gr.refl w,rfl⟩
 case round=>
  obtain⟨k,X,I,⟨x,rfl⟩,rfl⟩:=hrel;have J:=Kz I;clear I
  by_cases q:k<xs.length
  ·obtain⟨b,off,rfl,Y⟩:=H k q
   have Z:=(hu.fQ q).1;clear H
   go_wp2
   ·rename_i B
    go_ret;exact⟨aa (FW q B).symm,(Gr.refl w).ext _⟩
   ·rename_i B
    refine⟨⟨k+1,by omega,fun j D K=>?_,(Gr.refl w).ext _,by go_num⟩,by simp[intOf];omega⟩
    by_cases E:j<k
    ·exact J.o j D E
    ·obtain rfl:j=k:=by omega
     exact B
  ·go_wp2
   go_ret;exact⟨aa (Cr fun j D=>J.o j D (by omega)).symm,(Gr.refl w).ext _⟩
structure TestI(w:World)(fid:Nat)(cap:Array Value)(p:Int→Bool)(xs:List Int):Prop where
 fn:∀args W,(callFunc fid args).run Tryz.prog W=.ok (.enter fid args) W
 calls:∀y∈xs,∀x:Ext,Calls Tryz.prog fid (#[.int .i64 y]++cap) (w.ext x) fun e w'=>e=.returned (.bool (p y))∧Gr (w.ext x) w'
theorem OQ(fp:List Nat)(u:Value)(xs:List Int)(B:Nat)(cap:Array Value)(p:Int→Bool)(w:World)(hu:SlR fp w u xs)(T:TestI w B cap p xs):
  Qz 107 #[u,.func (.func B) #[] cap] w (.int .i64 (idxOf p xs)):=by
 obtain⟨a,ca,rfl,h1,h2,K⟩:=hu.open;obtain⟨Z,q⟩:=T;have U:=Kz q;clear q;delta Qz;go_in
 go_wp2
 go_loopw [8,5] (fun D X wr=>∃k:Nat,k≤xs.length∧(∀j (h:j<xs.length),j<k→p xs[j]=false)∧Gr w wr∧D=.int .i64 k) (fun D X _=>xs.length - (intOf D).toNat)
 case atStart=>exact⟨0,by omega,by omega,Gr.refl w,rfl⟩
 case round=>
  obtain⟨k,hk,O,⟨x,rfl⟩,rfl⟩:=hrel;have E:=Kz O;clear O
  by_cases s:k<xs.length
  ·obtain⟨b,off,rfl,hb⟩:=K k s
   have Y:=(hu.fQ s).1;have z1:=blk Y;clear K;go_wp2_with fail;refine(U.o _ (List.getElem_mem s) _).mono ?_;rintro e w2 ⟨rfl,x2,rfl⟩
   go_wp2
   ·rename_i H
    go_ret;exact⟨aC (iH s H E.o).symm,((Gr.refl w).ext _).ext _⟩
   ·rename_i H
    refine⟨⟨k+1,by omega,fun j I ae=>?_,((Gr.refl w).ext _).ext _,by go_num⟩,by simp[intOf];omega⟩
    by_cases J:j<k
    ·exact E.o j I J
    ·obtain rfl:j=k:=by omega
     exact H
  ·go_wp2
   go_ret;exact⟨aC (gu fun j I=>E.o j I (by omega)).symm,(Gr.refl w).ext _⟩
theorem OX(fp:List Nat)(u:Value)(xs:List Int)(h:Nat)(cap:Array Value)(p:Int→Bool)(w:World)(hu:SlR fp w u xs)(q:TestI w h cap p xs):
  Qz 48 #[u,.func (.func h) #[] cap] w (.bool (xs.any p)):=by
 delta Qz;go_in
 go_wp2_with (go_at_call 107;refine(OQ fp _ _ _ _ _ _ hu q).mono ?_;rintro e w1 ⟨rfl,s⟩)
 go_ret;refine⟨aa ?_,by assumption⟩;rw[Bool.eq_iff_iff,decide_eq_true_iff];exact iW
def less(left:Int)(n:Nat):Int:=if left - n<0 then -1 else left - n
theorem aH(left:Int)(n:Nat):(0≤less left n∧less left n=left - n)∨(less left n= -1∧left<n):=by
 unfold less;split<;>omega
theorem fE(left:Int)(a b:Nat):less (less left a) b=less left (a+b):=by
 unfold less
 split<;>split<;>split<;>omega
theorem fD(left:Int)(n:Nat)(h:-1≤left):less left n≤left∧-1≤less left n:=by
 unfold less;split<;>omega
theorem jV{left:Int}{a b:Nat}(h:less left a<0)(q:a≤b)(_h0:0≤left):less left b= -1:=by
 unfold less at*
 split at h
 ·rw[if_pos (by omega)]
 ·omega
def wtL{α:Type}(f:α→Nat)(xs:List α):Nat:=xs.length+(xs.map f).sum
theorem eZ{α:Type}(f:α→Nat)(xs:List α)(k:Nat)(h:k<xs.length):((xs.take (k+1)).map f).sum=((xs.take k).map f).sum+f xs[k]:=by
 rw[List.take_succ_eq_append_getElem h];simp only[List.map_append,List.sum_append,List.map_cons,List.map_nil,List.sum_cons,List.sum_nil,Nat.add_zero]
theorem gJ{α:Type}(f:α→Nat)(xs:List α)(k:Nat):((xs.take k).map f).sum≤(xs.map f).sum:=by
 have h:(xs.map f).sum=((xs.take k).map f).sum+((xs.drop k).map f).sum:=by
  rw[←List.sum_append,←List.map_append,List.take_append_drop]
 omega
theorem bT{α:Type}(f:α→Nat)(xs:List α):xs.length≤wtL f xs:=by unfold wtL;omega
theorem dI{α:Type}(f:α→Nat)(xs:List α){k:Nat}(h:k<xs.length):f xs[k]≤wtL f xs:=by
 have q:=eZ f xs k h;have s:=gJ f xs (k+1);unfold wtL;omega
def setRow(C:Array Value):Nat→List Value→Array Value
 |_,[]=>C
 |o,v::vs=>setRow (C.setIfInBounds o v) (o+1) vs
theorem setRow_size(vs:List Value):∀(C:Array Value) (o:Nat),(setRow C o vs).size=C.size:=by
 induction vs with
 |nil=>intro C o;rfl
 |cons v vs h=>intro C o;rw[setRow,h];simp
theorem jW(vs:List Value):∀(C:Array Value) (o j:Nat),j<o→(setRow C o vs)[j]?=C[j]?:=by
 induction vs with
 |nil=>intro C o j _;rfl
 |cons v vs q=>
  intro C o j h
  rw[setRow,q _ _ _ (by omega),Array.getElem?_setIfInBounds,if_neg (by omega)]
theorem jS(vs:List Value):∀(C:Array Value) (o:Nat),o+vs.length≤C.size→∀j u,vs[j]?=some u→(setRow C o vs)[o+j]?=some u:=by
 induction vs with
 |nil=>intro C o _ j u h;simp at h
 |cons v vs q=>
  intro C o s j u h
  simp only[List.length_cons] at s
  cases j with
  |zero=>
   simp at h;subst h;rw[Nat.add_zero,setRow,jW _ _ _ _ (by omega),Array.getElem?_setIfInBounds,if_pos rfl,if_pos (by omega)]
  |succ j=>
   rw[setRow,show o+(j+1)=o+1+j by omega];exact q _ _ (by simp;omega) j u (by simpa using h)
theorem Hu{C:Array Value}{o:Nat}{v0 v1:Value}:setRow C o [v0,v1]=((C.setIfInBounds (o) v0).setIfInBounds (o+1) v1):=by
 simp only[setRow]
theorem G7{C:Array Value}{o:Nat}{v0 v1 v2 h:Value}:setRow C o [v0,v1,v2,h]=((((C.setIfInBounds (o) v0).setIfInBounds (o+1) v1).setIfInBounds (o+2) v2).setIfInBounds (o+3) h):=by
 simp only[setRow,Nat.add_assoc,Nat.reduceAdd]
theorem CX{C:Array Value}{o:Nat}{v0 v1 v2 h v4 q:Value}:setRow C o [v0,v1,v2,h,v4,q]=((((((C.setIfInBounds (o) v0).setIfInBounds (o+1) v1).setIfInBounds (o+2) v2).setIfInBounds (o+3) h).setIfInBounds (o+4) v4).setIfInBounds (o+5) q):=by
 simp only[setRow,Nat.add_assoc,Nat.reduceAdd]
theorem F3{C:Array Value}{o:Nat}{v0 v1 v2 h v4 q v6:Value}:setRow C o [v0,v1,v2,h,v4,q,v6]=(((((((C.setIfInBounds (o) v0).setIfInBounds (o+1) v1).setIfInBounds (o+2) v2).setIfInBounds (o+3) h).setIfInBounds (o+4) v4).setIfInBounds (o+5) q).setIfInBounds (o+6) v6):=by
 simp only[setRow,Nat.add_assoc,Nat.reduceAdd]
theorem Gl{C:Array Value}{o:Nat}{v0 v1 v2 h v4 q v6 s B:Value}:setRow C o [v0,v1,v2,h,v4,q,v6,s,B]=(((((((((C.setIfInBounds (o) v0).setIfInBounds (o+1) v1).setIfInBounds (o+2) v2).setIfInBounds (o+3) h).setIfInBounds (o+4) v4).setIfInBounds (o+5) q).setIfInBounds (o+6) v6).setIfInBounds (o+7) s).setIfInBounds (o+8) B):=by
 simp only[setRow,Nat.add_assoc,Nat.reduceAdd]
theorem Fv{C:Array Value}{o:Nat}{v0 v1 v2 D v4 E v6 H I J v10 v11 h q s B:Value}:setRow C o [v0,v1,v2,D,v4,E,v6,H,I,J,v10,v11,h,q,s,B]=((((((((((((((((C.setIfInBounds (o) v0).setIfInBounds (o+1) v1).setIfInBounds (o+2) v2).setIfInBounds (o+3) D).setIfInBounds (o+4) v4).setIfInBounds (o+5) E).setIfInBounds (o+6) v6).setIfInBounds (o+7) H).setIfInBounds (o+8) I).setIfInBounds (o+9) J).setIfInBounds (o+10) v10).setIfInBounds (o+11) v11).setIfInBounds (o+12) h).setIfInBounds (o+13) q).setIfInBounds (o+14) s).setIfInBounds (o+15) B):=by
 simp only[setRow,Nat.add_assoc,Nat.reduceAdd]
theorem Gr.keep{W w':World}(h:Gr W w'){b o:Nat}{v:Value}(hc:W.cell? ⟨b,o,none⟩=some v):w'.cell? ⟨b,o,none⟩=some v:=by
 have:=h.below.cell (p:=⟨b,o,none⟩) (blk hc);rw[this];exact hc
theorem aJ{A:World}{C:Array Value}{t:TypeId}{n j:Nat}{v:Value}(h:n=A.heap.size)(q:C[j]?=some v):(A.alloc (.cells C t)).cell? ⟨n,j,none⟩=some v:=by
 subst h;rw[World.cell?_alloc_new];exact q
theorem kd{B:World}{a:Addr}{v:Value}(h:B.cell? a=some v:=by repeat(first|((with_reducible refine aJ ?_ ?_)<;>first|omega|(simp;done)|(simp;omega)|rfl)|(with_reducible refine Gr.keep (Gr.alloc (Gr.refl _) _) ?_)|(with_reducible refine Gr.keep (Gr.ext (Gr.refl _) _) ?_)|(with_reducible refine Gr.keep (Gr.drew (Gr.refl _)) ?_))):B.cell? a=some v:=h
theorem kb{X B:World}(q:X=B)(b j:Nat)(v:Value)(h:X.cell? ⟨b,j,none⟩=some v:=by exact kd):∀w':World,Gr B w'→w'.cell? ⟨b,j,none⟩=some v:=fun w' g=>g.keep (q▸h)
theorem kb2{X B:World}(h:X=B)(b:Nat)(v0 v1:Value)(q:X.cell? ⟨b,0,none⟩=some v0:=by exact kd)(s:X.cell? ⟨b,1,none⟩=some v1:=by exact kd):(∀w':World,Gr B w'→w'.cell? ⟨b,0,none⟩=some v0)∧(∀w':World,Gr B w'→w'.cell? ⟨b,1,none⟩=some v1):=⟨fun w' g=>g.keep (h▸q),fun w' g=>g.keep (h▸s)⟩
theorem kb3{X B:World}(h:X=B)(b:Nat)(v0 v1 v2:Value)(q:X.cell? ⟨b,0,none⟩=some v0:=by exact kd)(s:X.cell? ⟨b,1,none⟩=some v1:=by exact kd)(D:X.cell? ⟨b,2,none⟩=some v2:=by exact kd):(∀w':World,Gr B w'→w'.cell? ⟨b,0,none⟩=some v0)∧(∀w':World,Gr B w'→w'.cell? ⟨b,1,none⟩=some v1)∧(∀w':World,Gr B w'→w'.cell? ⟨b,2,none⟩=some v2):=⟨fun w' g=>g.keep (h▸q),fun w' g=>g.keep (h▸s),fun w' g=>g.keep (h▸D)⟩
theorem kb4{X B:World}(h:X=B)(b:Nat)(v0 v1 v2 q:Value)(s:X.cell? ⟨b,0,none⟩=some v0:=by exact kd)(D:X.cell? ⟨b,1,none⟩=some v1:=by exact kd)(E:X.cell? ⟨b,2,none⟩=some v2:=by exact kd)(H:X.cell? ⟨b,3,none⟩=some q:=by exact kd):(∀w':World,Gr B w'→w'.cell? ⟨b,0,none⟩=some v0)∧(∀w':World,Gr B w'→w'.cell? ⟨b,1,none⟩=some v1)∧(∀w':World,Gr B w'→w'.cell? ⟨b,2,none⟩=some v2)∧(∀w':World,Gr B w'→w'.cell? ⟨b,3,none⟩=some q):=⟨fun w' g=>g.keep (h▸s),fun w' g=>g.keep (h▸D),fun w' g=>g.keep (h▸E),fun w' g=>g.keep (h▸H)⟩
theorem kb5{X B:World}(h:X=B)(b:Nat)(v0 v1 v2 q v4:Value)(s:X.cell? ⟨b,0,none⟩=some v0:=by exact kd)(D:X.cell? ⟨b,1,none⟩=some v1:=by exact kd)(E:X.cell? ⟨b,2,none⟩=some v2:=by exact kd)(H:X.cell? ⟨b,3,none⟩=some q:=by exact kd)(I:X.cell? ⟨b,4,none⟩=some v4:=by exact kd):(∀w':World,Gr B w'→w'.cell? ⟨b,0,none⟩=some v0)∧(∀w':World,Gr B w'→w'.cell? ⟨b,1,none⟩=some v1)∧(∀w':World,Gr B w'→w'.cell? ⟨b,2,none⟩=some v2)∧(∀w':World,Gr B w'→w'.cell? ⟨b,3,none⟩=some q)∧(∀w':World,Gr B w'→w'.cell? ⟨b,4,none⟩=some v4):=⟨fun w' g=>g.keep (h▸s),fun w' g=>g.keep (h▸D),fun w' g=>g.keep (h▸E),fun w' g=>g.keep (h▸H),fun w' g=>g.keep (h▸I)⟩
theorem kb6{X B:World}(h:X=B)(b:Nat)(v0 v1 v2 q v4 s:Value)(D:X.cell? ⟨b,0,none⟩=some v0:=by exact kd)(E:X.cell? ⟨b,1,none⟩=some v1:=by exact kd)(H:X.cell? ⟨b,2,none⟩=some v2:=by exact kd)(I:X.cell? ⟨b,3,none⟩=some q:=by exact kd)(J:X.cell? ⟨b,4,none⟩=some v4:=by exact kd)(K:X.cell? ⟨b,5,none⟩=some s:=by exact kd):(∀w':World,Gr B w'→w'.cell? ⟨b,0,none⟩=some v0)∧(∀w':World,Gr B w'→w'.cell? ⟨b,1,none⟩=some v1)∧(∀w':World,Gr B w'→w'.cell? ⟨b,2,none⟩=some v2)∧(∀w':World,Gr B w'→w'.cell? ⟨b,3,none⟩=some q)∧(∀w':World,Gr B w'→w'.cell? ⟨b,4,none⟩=some v4)∧(∀w':World,Gr B w'→w'.cell? ⟨b,5,none⟩=some s):=⟨fun w' g=>g.keep (h▸D),fun w' g=>g.keep (h▸E),fun w' g=>g.keep (h▸H),fun w' g=>g.keep (h▸I),fun w' g=>g.keep (h▸J),fun w' g=>g.keep (h▸K)⟩
theorem kb7{X B:World}(h:X=B)(b:Nat)(v0 v1 v2 q v4 s v6:Value)(D:X.cell? ⟨b,0,none⟩=some v0:=by exact kd)(E:X.cell? ⟨b,1,none⟩=some v1:=by exact kd)(H:X.cell? ⟨b,2,none⟩=some v2:=by exact kd)(I:X.cell? ⟨b,3,none⟩=some q:=by exact kd)(J:X.cell? ⟨b,4,none⟩=some v4:=by exact kd)(K:X.cell? ⟨b,5,none⟩=some s:=by exact kd)(O:X.cell? ⟨b,6,none⟩=some v6:=by exact kd):(∀w':World,Gr B w'→w'.cell? ⟨b,0,none⟩=some v0)∧(∀w':World,Gr B w'→w'.cell? ⟨b,1,none⟩=some v1)∧(∀w':World,Gr B w'→w'.cell? ⟨b,2,none⟩=some v2)∧(∀w':World,Gr B w'→w'.cell? ⟨b,3,none⟩=some q)∧(∀w':World,Gr B w'→w'.cell? ⟨b,4,none⟩=some v4)∧(∀w':World,Gr B w'→w'.cell? ⟨b,5,none⟩=some s)∧(∀w':World,Gr B w'→w'.cell? ⟨b,6,none⟩=some v6):=⟨fun w' g=>g.keep (h▸D),fun w' g=>g.keep (h▸E),fun w' g=>g.keep (h▸H),fun w' g=>g.keep (h▸I),fun w' g=>g.keep (h▸J),fun w' g=>g.keep (h▸K),fun w' g=>g.keep (h▸O)⟩
theorem kb8{X B:World}(h:X=B)(b:Nat)(v0 v1 v2 q v4 s v6 D:Value)(E:X.cell? ⟨b,0,none⟩=some v0:=by exact kd)(H:X.cell? ⟨b,1,none⟩=some v1:=by exact kd)(I:X.cell? ⟨b,2,none⟩=some v2:=by exact kd)(J:X.cell? ⟨b,3,none⟩=some q:=by exact kd)(K:X.cell? ⟨b,4,none⟩=some v4:=by exact kd)(O:X.cell? ⟨b,5,none⟩=some s:=by exact kd)(T:X.cell? ⟨b,6,none⟩=some v6:=by exact kd)(U:X.cell? ⟨b,7,none⟩=some D:=by exact kd):(∀w':World,Gr B w'→w'.cell? ⟨b,0,none⟩=some v0)∧(∀w':World,Gr B w'→w'.cell? ⟨b,1,none⟩=some v1)∧(∀w':World,Gr B w'→w'.cell? ⟨b,2,none⟩=some v2)∧(∀w':World,Gr B w'→w'.cell? ⟨b,3,none⟩=some q)∧(∀w':World,Gr B w'→w'.cell? ⟨b,4,none⟩=some v4)∧(∀w':World,Gr B w'→w'.cell? ⟨b,5,none⟩=some s)∧(∀w':World,Gr B w'→w'.cell? ⟨b,6,none⟩=some v6)∧(∀w':World,Gr B w'→w'.cell? ⟨b,7,none⟩=some D):=⟨fun w' g=>g.keep (h▸E),fun w' g=>g.keep (h▸H),fun w' g=>g.keep (h▸I),fun w' g=>g.keep (h▸J),fun w' g=>g.keep (h▸K),fun w' g=>g.keep (h▸O),fun w' g=>g.keep (h▸T),fun w' g=>g.keep (h▸U)⟩
theorem kb9{X B:World}(h:X=B)(b:Nat)(v0 v1 v2 q v4 s v6 D E:Value)(H:X.cell? ⟨b,0,none⟩=some v0:=by exact kd)(I:X.cell? ⟨b,1,none⟩=some v1:=by exact kd)(J:X.cell? ⟨b,2,none⟩=some v2:=by exact kd)(K:X.cell? ⟨b,3,none⟩=some q:=by exact kd)(O:X.cell? ⟨b,4,none⟩=some v4:=by exact kd)(T:X.cell? ⟨b,5,none⟩=some s:=by exact kd)(U:X.cell? ⟨b,6,none⟩=some v6:=by exact kd)(Y:X.cell? ⟨b,7,none⟩=some D:=by exact kd)(Z:X.cell? ⟨b,8,none⟩=some E:=by exact kd):(∀w':World,Gr B w'→w'.cell? ⟨b,0,none⟩=some v0)∧(∀w':World,Gr B w'→w'.cell? ⟨b,1,none⟩=some v1)∧(∀w':World,Gr B w'→w'.cell? ⟨b,2,none⟩=some v2)∧(∀w':World,Gr B w'→w'.cell? ⟨b,3,none⟩=some q)∧(∀w':World,Gr B w'→w'.cell? ⟨b,4,none⟩=some v4)∧(∀w':World,Gr B w'→w'.cell? ⟨b,5,none⟩=some s)∧(∀w':World,Gr B w'→w'.cell? ⟨b,6,none⟩=some v6)∧(∀w':World,Gr B w'→w'.cell? ⟨b,7,none⟩=some D)∧(∀w':World,Gr B w'→w'.cell? ⟨b,8,none⟩=some E):=⟨fun w' g=>g.keep (h▸H),fun w' g=>g.keep (h▸I),fun w' g=>g.keep (h▸J),fun w' g=>g.keep (h▸K),fun w' g=>g.keep (h▸O),fun w' g=>g.keep (h▸T),fun w' g=>g.keep (h▸U),fun w' g=>g.keep (h▸Y),fun w' g=>g.keep (h▸Z)⟩
theorem str_inj{a b:ByteArray}(h:a.toList=b.toList):a=b:=by
 rw[ByteArray.toList_eq,ByteArray.toList_eq] at h;exact ByteArray.ext (Array.toList_inj.1 h)
theorem lg{a b:ByteArray}(h:(!a.toList==b.toList)=true):a≠b:=by
 intro e;subst e;simp at h
theorem str_eq{a b:ByteArray}(h:(!a.toList==b.toList)=false):a=b:=str_inj (by simpa using h)
theorem int_ne{a b:Int}(h:(a !=b)=true):a≠b:=by simpa using h
theorem int_eq{a b:Int}(h:(a !=b)=false):a=b:=by simpa using h
theorem iy{α:Type}[DecidableEq α]{a b:α}(h:(!decide (a=b))=true):a≠b:=by simpa using h
theorem iq{α:Type}[DecidableEq α]{a b:α}(h:(!decide (a=b))=false):a=b:=by simpa using h
theorem ru{A h:World}{x:Ext}{fp:List Nat}(s:aY A fp)(q:h.heap.size=A.heap.size):fB fp (A.ext x) (h.ext x):=by
 intro b B
 have:=s.2 b B;simp only[World.ext,Array.getElem?_append,q];rw[if_neg (by omega),if_neg (by omega)]
theorem SlR.moved{α:Type}[Rd α]{A q W:World}{x:Ext}{fp:List Nat}{v:Value}{xs:List α}(h:SlR fp (A.ext x) v xs)(B:aY A fp)(D:Gr (q.ext x) W)(s:q.heap.size=A.heap.size):SlR fp W v xs:=
 (h.mono (ru B s)).gr D
theorem Rd.moved{α:Type}[Rd α]{A q W:World}{x:Ext}{fp:List Nat}{cs:List Value}{y:α}(h:Rd.rd fp (A.ext x) cs y)(B:aY A fp)(D:Gr (q.ext x) W)(s:q.heap.size=A.heap.size):Rd.rd fp W cs y:=
 Rd.gr (Rd.mono (ru B s) h) D
theorem aY.app{w B w1:World}{fp fq:List Nat}(h:aY w fp)(hm:∀b∈fp,b<B.heap.size)(k:aY w1 fq)(q:B.heap.size≤w1.heap.size)(hw:w.heap.size≤w1.heap.size):aY w (fp++fq):=
 h.append hw (fun b s=>Nat.lt_of_lt_of_le (hm b s) q) k
theorem Tryz.IL:(Tryz.prog.info? 3).map (fun i=>(i.zero,i.size,i.bytes))=some (some (.int .i64 0),1,8):=by kernel_rfl
theorem Ef(fp:List Nat)(u:Value)(xs:List Int)(left:Int)(w:World)(hu:SlR fp w u xs)(h:-1≤left)(q:left≤1048576):
  Calls Tryz.prog 119 #[u,.int .i64 left] w fun e w'=>e=.returned (.int .i64 (less left xs.length))∧w=w':=by
 obtain⟨a,s,rfl,B,D,E⟩:=hu.open;go_in
 go_wp2
 all_goals
  go_ret;refine⟨aC ?_,rfl⟩;unfold less
  first|rw[if_pos (by omega)]|rw[if_neg (by omega)]
theorem DI(fp:List Nat)(u:Value)(xs:List Int)(w:World)(hu:SlR fp w u xs)(hlen:xs.length≤1048576):
  Calls Tryz.prog 10 #[u] w fun e w'=>∃v fq,e=.returned v∧SlR fq w' v xs∧aY w fq∧Gr w w':=by
 obtain⟨a,ca,rfl,h1,h2,T⟩:=hu.open;obtain⟨i0,U,E,H,I⟩:=info_parts Tryz.IL;have q:=fun(W:World)=>run_make (P:=Tryz.prog) W 29 3 i0 (.int .i64 0) Tryz.underlying29 U E .i64 .i64 xs.length xs.length (by omega) (by omega) (by rw[I];omega) (by omega)
 rw[H] at q;clear U E H I;simp only[Int.toNat_natCast,Nat.mul_one] at q;have s:=size_madeCells (Value.int .i64 0).cells xs.length;generalize madeCells (Value.int .i64 0).cells xs.length=C0 at q s;have HS:=Kz s;clear s;go_in
 go_wp2
 go_loopw [4] (fun K wr=>∃(k:Nat) (C:Array Value),k≤xs.length∧C.size=xs.length∧(∀j (h:j<xs.length),j<k→C[j]?=some (.int .i64 xs[j]))∧wr=w.alloc (.cells C 3)∧K=.int .i64 k) (fun K _=>xs.length - (intOf K).toNat)
 case atStart=>exact⟨0,C0,by omega,HS.o,by omega,rfl,rfl⟩
 case round=>
  obtain⟨k,C,hk,O,D,rfl,rfl⟩:=hrel;have hT:=Kz D;have X:=Kz O
  by_cases J:k<xs.length
  ·obtain⟨b,off,rfl,hb⟩:=T k J
   have x1:=(hu.fQ J).1;have y1:k<C.size:=by omega
   clear D O T
   go_wp2
   refine⟨⟨k+1,_,by omega,by simp[X.o],fun j B ae=>?_,rfl,by go_num⟩,by simp[intOf];omega⟩;rw[Array.getElem?_setIfInBounds]
   split
   ·rename_i e;subst e;rfl
   ·exact hT.o j B (by omega)
  ·have Y:k=xs.length:=by omega
   subst Y
   obtain⟨fq,Z,hf⟩:=SlR.flat (w:=w.alloc (.cells C 3)) (b:=w.heap.size) (C:=C) (t:=3) (cap:=xs.length) (xs:=xs) (heap_alloc_new w _) rfl
    (fun j B=>⟨_,D j B B,rfl,rfl,hu.Eu B⟩) (Nat.le_refl _) (by unfold bn;omega)
   have HF:=Kz Z;clear Z D O
   go_wp2
   go_ret;exact⟨_,fq,rfl,HF.o,aY.of_flat hf (Nat.le_refl _),(Gr.refl w).alloc _⟩
theorem FJ(fp:List Nat)(u:Value)(xs:List Int)(left:Int)(w:World)(hu:SlR fp w u xs)(h:-1≤left)(q:left≤1048576):
  Qz 119 #[u,.int .i64 left] w (.int .i64 (less left xs.length)):=
 (Ef fp u xs left w hu h q).mono fun _ _ ⟨he,hw⟩=>⟨he,hw▸Gr.refl w⟩
def Pj(h:List (List Int)):Nat:=wtL List.length h
theorem FX{α:Type}{p:α→Bool}{xs:List α}{k:Nat}(s:k<xs.length)(q:p xs[k]=true)(h:∀j (h:j<xs.length),j<k→p xs[j]=false):xs.find? p=some xs[k]:=by
 induction xs generalizing k with
 |nil=>simp at s
 |cons x xs D=>
  cases k with
  |zero=>simp at q;simp[q]
  |succ k=>
   have B:=h 0 (by simp) (by omega);simp at B
   have:=D (k:=k) (by simpa using s) (by simpa using q) (fun j I H=>by
    have E:=h (j+1) (by simp;omega) (by omega)
    rwa [List.getElem_cons_succ] at E)
   simp[B,this]
theorem jU{α:Type}{p:α→Bool}{xs:List α}(h:∀j (h:j<xs.length),p xs[j]=false):xs.find? p=none:=by
 rw[List.find?_eq_none];intro x q
 obtain⟨j,s,rfl⟩:=List.mem_iff_getElem.1 q;simp[h j s]
theorem SlR.J4{α:Type}[Rd α]{fp:List Nat}{w:World}{a:Option Addr}{len cap:Nat}{xs:List α}(h:SlR fp w (.slice a len cap) xs){k:Nat}(B:k≤xs.length):∃fq,SlR fq w (.slice a k cap) (xs.take k):=by
 obtain⟨Z,D,E,h1,h2,H⟩:=h;injection E with I e2 J;subst I J;have q:(xs.take k).length=k:=by simp;omega
 by_cases K:k=0
 ·subst K
  exact⟨[],a,cap,by simp,by simp,by simp,.inl ⟨by simp,rfl⟩⟩
 ·rcases H with⟨rfl,_⟩|⟨b,off,fps,X,rfl,_,hlen,s,O⟩
  ·simp at B;omega
  ·refine⟨b::(fps.take k).flatten,some ⟨b,off,none⟩,cap,by rw[q],by rw[q];omega,by rw[q];omega,.inr ⟨b,off,fps.take k,fun e=>by rw[e] at q;simp at q;omega,rfl,rfl,by simp;omega,fun j T=>s j (Nat.lt_of_lt_of_le T (Nat.mul_le_mul_right _ (by omega))),fun i hi Y=>?_⟩⟩
   obtain⟨cs,hc,U⟩:=O i (by omega) (by omega);exact⟨cs,hc,by simpa using U⟩
end Go.Proofs.YtdhighcpmcdmmaaGreat
namespace Go.Proofs.YtdhighcpmcdmmaaGreat.fnExactIsFixpoint
open Go.ChangeShapes Go.WideShapes Go.RowKit
theorem JA:(laidOutB Tryz.pinned.checked.prog)=true:=by kernel_rfl
theorem FQ:((Rows.fnExactIsFixpointRow.inPlace==Tryz.pinned.checked.prog.inPlace 3))=true:=by kernel_rfl
end Go.Proofs.YtdhighcpmcdmmaaGreat.fnExactIsFixpoint
namespace Go.Proofs.YtdhighcpmcdmmaaGreat.fnExactIsFixpoint
open Go.ChangeShapes Go.WideShapes Go.RowKit
theorem Ko:((Rows.fnExactIsFixpointRow.named==Tryz.pinned.checked.prog.varsNamed 3))=true:=by kernel_rfl
theorem JG:(mapsRowed Tryz.pinned.checked.prog)=true:=by kernel_rfl
theorem JK:(Tryz.f3.params.all (Tryz.pinned.checked.prog.readableRec ·))=true:=by kernel_rfl
theorem IW:(namedTie Tryz.pinned.checked.prog Rows.fnExactIsFixpointRow.named Rows.fnExactIsFixpointSpec.vars)=true:=by kernel_rfl
theorem IA:((Tryz.pinned.checked.prog.stops==[]))=true:=by kernel_rfl
theorem IZ:((Tryz.pinned.checked.prog.stopKnobs==[]))=true:=by kernel_rfl
end Go.Proofs.YtdhighcpmcdmmaaGreat.fnExactIsFixpoint
