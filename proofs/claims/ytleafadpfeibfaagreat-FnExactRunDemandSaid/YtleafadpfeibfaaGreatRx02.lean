/- Contracts and laws towards ReadsOf, part 3 of 54. No condition. -/
import Derived.Test.YtleafadpfeibfaaGreatRx01
set_option maxHeartbeats 32000000
set_option maxRecDepth 10000
set_option linter.unusedVariables false
set_option linter.unusedSimpArgs false
namespace Go.Proofs.YtleafadpfeibfaaGreat
open Go.RowKit
def less(left:Int)(n:Nat):Int:=if left - n<0 then -1 else left - n
theorem aH(left:Int)(n:Nat):(0≤less left n∧less left n=left - n)∨(less left n= -1∧left<n):=by
 unfold less;split<;>omega
theorem fE(left:Int)(a b:Nat):less (less left a) b=less left (a+b):=by
 unfold less
 split<;>split<;>split<;>omega
theorem fD(left:Int)(n:Nat)(h:-1≤left):less left n≤left∧-1≤less left n:=by
 unfold less;split<;>omega
theorem jV{left:Int}{a b:Nat}(h:less left a<0)(q:a≤b)(_h0:0≤left):less left b= -1:=by
 unfold less at*
 split at h
 ·rw[if_pos (by omega)]
 ·omega
def wtL{α:Type}(f:α→Nat)(xs:List α):Nat:=xs.length+(xs.map f).sum
theorem eZ{α:Type}(f:α→Nat)(xs:List α)(k:Nat)(h:k<xs.length):((xs.take (k+1)).map f).sum=((xs.take k).map f).sum+f xs[k]:=by
 rw[List.take_succ_eq_append_getElem h];simp only[List.map_append,List.sum_append,List.map_cons,List.map_nil,List.sum_cons,List.sum_nil,Nat.add_zero]
theorem gJ{α:Type}(f:α→Nat)(xs:List α)(k:Nat):((xs.take k).map f).sum≤(xs.map f).sum:=by
 have h:(xs.map f).sum=((xs.take k).map f).sum+((xs.drop k).map f).sum:=by
  rw[←List.sum_append,←List.map_append,List.take_append_drop]
 omega
theorem bT{α:Type}(f:α→Nat)(xs:List α):xs.length≤wtL f xs:=by unfold wtL;omega
theorem dI{α:Type}(f:α→Nat)(xs:List α){k:Nat}(h:k<xs.length):f xs[k]≤wtL f xs:=by
 have h1:=eZ f xs k h;have q:=gJ f xs (k+1);unfold wtL;omega
def setRow(C:Array Value):Nat→List Value→Array Value
 |_,[]=>C
 |o,v::vs=>setRow (C.setIfInBounds o v) (o+1) vs
theorem setRow_size(vs:List Value):∀(C:Array Value) (o:Nat),(setRow C o vs).size=C.size:=by
 induction vs with
 |nil=>intro C o;rfl
 |cons v vs h=>intro C o;rw[setRow,h];simp
theorem jW(vs:List Value):∀(C:Array Value) (o j:Nat),j<o→(setRow C o vs)[j]?=C[j]?:=by
 induction vs with
 |nil=>intro C o j _;rfl
 |cons v vs q=>
  intro C o j h
  rw[setRow,q _ _ _ (by omega),Array.getElem?_setIfInBounds,if_neg (by omega)]
theorem jS(vs:List Value):∀(C:Array Value) (o:Nat),o+vs.length≤C.size→∀j u,vs[j]?=some u→(setRow C o vs)[o+j]?=some u:=by
 induction vs with
 |nil=>intro C o _ j u h;simp at h
 |cons v vs q=>
  intro C o B j u h
  simp only[List.length_cons] at B
  cases j with
  |zero=>
   simp at h;subst h;rw[Nat.add_zero,setRow,jW _ _ _ _ (by omega),Array.getElem?_setIfInBounds,if_pos rfl,if_pos (by omega)]
  |succ j=>
   rw[setRow,show o+(j+1)=o+1+j by omega];exact q _ _ (by simp;omega) j u (by simpa using h)
theorem Hu{C:Array Value}{o:Nat}{v0 v1:Value}:setRow C o [v0,v1]=((C.setIfInBounds (o) v0).setIfInBounds (o+1) v1):=by
 simp only[setRow]
theorem G7{C:Array Value}{o:Nat}{v0 v1 v2 v3:Value}:setRow C o [v0,v1,v2,v3]=((((C.setIfInBounds (o) v0).setIfInBounds (o+1) v1).setIfInBounds (o+2) v2).setIfInBounds (o+3) v3):=by
 simp only[setRow,Nat.add_assoc,Nat.reduceAdd]
theorem CX{C:Array Value}{o:Nat}{v0 v1 v2 v3 v4 v5:Value}:setRow C o [v0,v1,v2,v3,v4,v5]=((((((C.setIfInBounds (o) v0).setIfInBounds (o+1) v1).setIfInBounds (o+2) v2).setIfInBounds (o+3) v3).setIfInBounds (o+4) v4).setIfInBounds (o+5) v5):=by
 simp only[setRow,Nat.add_assoc,Nat.reduceAdd]
theorem F3{C:Array Value}{o:Nat}{v0 v1 v2 v3 v4 v5 v6:Value}:setRow C o [v0,v1,v2,v3,v4,v5,v6]=(((((((C.setIfInBounds (o) v0).setIfInBounds (o+1) v1).setIfInBounds (o+2) v2).setIfInBounds (o+3) v3).setIfInBounds (o+4) v4).setIfInBounds (o+5) v5).setIfInBounds (o+6) v6):=by
 simp only[setRow,Nat.add_assoc,Nat.reduceAdd]
theorem Gl{C:Array Value}{o:Nat}{v0 v1 v2 v3 v4 v5 v6 h q:Value}:setRow C o [v0,v1,v2,v3,v4,v5,v6,h,q]=(((((((((C.setIfInBounds (o) v0).setIfInBounds (o+1) v1).setIfInBounds (o+2) v2).setIfInBounds (o+3) v3).setIfInBounds (o+4) v4).setIfInBounds (o+5) v5).setIfInBounds (o+6) v6).setIfInBounds (o+7) h).setIfInBounds (o+8) q):=by
 simp only[setRow,Nat.add_assoc,Nat.reduceAdd]
theorem Fv{C:Array Value}{o:Nat}{v0 v1 v2 v3 v4 v5 v6 D I v9 v10 v11 v12 h q B:Value}:setRow C o [v0,v1,v2,v3,v4,v5,v6,D,I,v9,v10,v11,v12,h,q,B]=((((((((((((((((C.setIfInBounds (o) v0).setIfInBounds (o+1) v1).setIfInBounds (o+2) v2).setIfInBounds (o+3) v3).setIfInBounds (o+4) v4).setIfInBounds (o+5) v5).setIfInBounds (o+6) v6).setIfInBounds (o+7) D).setIfInBounds (o+8) I).setIfInBounds (o+9) v9).setIfInBounds (o+10) v10).setIfInBounds (o+11) v11).setIfInBounds (o+12) v12).setIfInBounds (o+13) h).setIfInBounds (o+14) q).setIfInBounds (o+15) B):=by
 simp only[setRow,Nat.add_assoc,Nat.reduceAdd]
theorem Gr.keep{W w':World}(h:Gr W w'){b o:Nat}{v:Value}(hc:W.cell? ⟨b,o,none⟩=some v):w'.cell? ⟨b,o,none⟩=some v:=by
 have:=h.below.cell (p:=⟨b,o,none⟩) (blk hc);rw[this];exact hc
theorem aJ{A:World}{C:Array Value}{t:TypeId}{n j:Nat}{v:Value}(hn:n=A.heap.size)(h:C[j]?=some v):(A.alloc (.cells C t)).cell? ⟨n,j,none⟩=some v:=by
 subst hn;rw[World.cell?_alloc_new];exact h
theorem kd{B:World}{a:Addr}{v:Value}(h:B.cell? a=some v:=by repeat(first|((with_reducible refine aJ ?_ ?_)<;>first|omega|(simp;done)|(simp;omega)|rfl)|(with_reducible refine Gr.keep (Gr.alloc (Gr.refl _) _) ?_)|(with_reducible refine Gr.keep (Gr.ext (Gr.refl _) _) ?_)|(with_reducible refine Gr.keep (Gr.drew (Gr.refl _)) ?_))):B.cell? a=some v:=h
theorem kb{X B:World}(q:X=B)(b j:Nat)(v:Value)(h:X.cell? ⟨b,j,none⟩=some v:=by exact kd):∀w':World,Gr B w'→w'.cell? ⟨b,j,none⟩=some v:=fun w' g=>g.keep (q▸h)
theorem kb2{X B:World}(h:X=B)(b:Nat)(v0 v1:Value)(q:X.cell? ⟨b,0,none⟩=some v0:=by exact kd)(h1:X.cell? ⟨b,1,none⟩=some v1:=by exact kd):(∀w':World,Gr B w'→w'.cell? ⟨b,0,none⟩=some v0)∧(∀w':World,Gr B w'→w'.cell? ⟨b,1,none⟩=some v1):=⟨fun w' g=>g.keep (h▸q),fun w' g=>g.keep (h▸h1)⟩
theorem kb3{X B:World}(h:X=B)(b:Nat)(v0 v1 v2:Value)(q:X.cell? ⟨b,0,none⟩=some v0:=by exact kd)(h1:X.cell? ⟨b,1,none⟩=some v1:=by exact kd)(D:X.cell? ⟨b,2,none⟩=some v2:=by exact kd):(∀w':World,Gr B w'→w'.cell? ⟨b,0,none⟩=some v0)∧(∀w':World,Gr B w'→w'.cell? ⟨b,1,none⟩=some v1)∧(∀w':World,Gr B w'→w'.cell? ⟨b,2,none⟩=some v2):=⟨fun w' g=>g.keep (h▸q),fun w' g=>g.keep (h▸h1),fun w' g=>g.keep (h▸D)⟩
theorem kb4{X B:World}(h:X=B)(b:Nat)(v0 v1 v2 v3:Value)(q:X.cell? ⟨b,0,none⟩=some v0:=by exact kd)(h1:X.cell? ⟨b,1,none⟩=some v1:=by exact kd)(D:X.cell? ⟨b,2,none⟩=some v2:=by exact kd)(I:X.cell? ⟨b,3,none⟩=some v3:=by exact kd):(∀w':World,Gr B w'→w'.cell? ⟨b,0,none⟩=some v0)∧(∀w':World,Gr B w'→w'.cell? ⟨b,1,none⟩=some v1)∧(∀w':World,Gr B w'→w'.cell? ⟨b,2,none⟩=some v2)∧(∀w':World,Gr B w'→w'.cell? ⟨b,3,none⟩=some v3):=⟨fun w' g=>g.keep (h▸q),fun w' g=>g.keep (h▸h1),fun w' g=>g.keep (h▸D),fun w' g=>g.keep (h▸I)⟩
theorem kb5{X B:World}(h:X=B)(b:Nat)(v0 v1 v2 v3 v4:Value)(q:X.cell? ⟨b,0,none⟩=some v0:=by exact kd)(h1:X.cell? ⟨b,1,none⟩=some v1:=by exact kd)(D:X.cell? ⟨b,2,none⟩=some v2:=by exact kd)(I:X.cell? ⟨b,3,none⟩=some v3:=by exact kd)(J:X.cell? ⟨b,4,none⟩=some v4:=by exact kd):(∀w':World,Gr B w'→w'.cell? ⟨b,0,none⟩=some v0)∧(∀w':World,Gr B w'→w'.cell? ⟨b,1,none⟩=some v1)∧(∀w':World,Gr B w'→w'.cell? ⟨b,2,none⟩=some v2)∧(∀w':World,Gr B w'→w'.cell? ⟨b,3,none⟩=some v3)∧(∀w':World,Gr B w'→w'.cell? ⟨b,4,none⟩=some v4):=⟨fun w' g=>g.keep (h▸q),fun w' g=>g.keep (h▸h1),fun w' g=>g.keep (h▸D),fun w' g=>g.keep (h▸I),fun w' g=>g.keep (h▸J)⟩
theorem kb6{X B:World}(h:X=B)(b:Nat)(v0 v1 v2 v3 v4 v5:Value)(q:X.cell? ⟨b,0,none⟩=some v0:=by exact kd)(h1:X.cell? ⟨b,1,none⟩=some v1:=by exact kd)(D:X.cell? ⟨b,2,none⟩=some v2:=by exact kd)(I:X.cell? ⟨b,3,none⟩=some v3:=by exact kd)(J:X.cell? ⟨b,4,none⟩=some v4:=by exact kd)(K:X.cell? ⟨b,5,none⟩=some v5:=by exact kd):(∀w':World,Gr B w'→w'.cell? ⟨b,0,none⟩=some v0)∧(∀w':World,Gr B w'→w'.cell? ⟨b,1,none⟩=some v1)∧(∀w':World,Gr B w'→w'.cell? ⟨b,2,none⟩=some v2)∧(∀w':World,Gr B w'→w'.cell? ⟨b,3,none⟩=some v3)∧(∀w':World,Gr B w'→w'.cell? ⟨b,4,none⟩=some v4)∧(∀w':World,Gr B w'→w'.cell? ⟨b,5,none⟩=some v5):=⟨fun w' g=>g.keep (h▸q),fun w' g=>g.keep (h▸h1),fun w' g=>g.keep (h▸D),fun w' g=>g.keep (h▸I),fun w' g=>g.keep (h▸J),fun w' g=>g.keep (h▸K)⟩
theorem kb7{X B:World}(h:X=B)(b:Nat)(v0 v1 v2 v3 v4 v5 v6:Value)(q:X.cell? ⟨b,0,none⟩=some v0:=by exact kd)(h1:X.cell? ⟨b,1,none⟩=some v1:=by exact kd)(D:X.cell? ⟨b,2,none⟩=some v2:=by exact kd)(I:X.cell? ⟨b,3,none⟩=some v3:=by exact kd)(J:X.cell? ⟨b,4,none⟩=some v4:=by exact kd)(K:X.cell? ⟨b,5,none⟩=some v5:=by exact kd)(O:X.cell? ⟨b,6,none⟩=some v6:=by exact kd):(∀w':World,Gr B w'→w'.cell? ⟨b,0,none⟩=some v0)∧(∀w':World,Gr B w'→w'.cell? ⟨b,1,none⟩=some v1)∧(∀w':World,Gr B w'→w'.cell? ⟨b,2,none⟩=some v2)∧(∀w':World,Gr B w'→w'.cell? ⟨b,3,none⟩=some v3)∧(∀w':World,Gr B w'→w'.cell? ⟨b,4,none⟩=some v4)∧(∀w':World,Gr B w'→w'.cell? ⟨b,5,none⟩=some v5)∧(∀w':World,Gr B w'→w'.cell? ⟨b,6,none⟩=some v6):=⟨fun w' g=>g.keep (h▸q),fun w' g=>g.keep (h▸h1),fun w' g=>g.keep (h▸D),fun w' g=>g.keep (h▸I),fun w' g=>g.keep (h▸J),fun w' g=>g.keep (h▸K),fun w' g=>g.keep (h▸O)⟩
theorem kb8{X B:World}(h:X=B)(b:Nat)(v0 v1 v2 v3 v4 v5 v6 q:Value)(D:X.cell? ⟨b,0,none⟩=some v0:=by exact kd)(h1:X.cell? ⟨b,1,none⟩=some v1:=by exact kd)(I:X.cell? ⟨b,2,none⟩=some v2:=by exact kd)(J:X.cell? ⟨b,3,none⟩=some v3:=by exact kd)(K:X.cell? ⟨b,4,none⟩=some v4:=by exact kd)(O:X.cell? ⟨b,5,none⟩=some v5:=by exact kd)(T:X.cell? ⟨b,6,none⟩=some v6:=by exact kd)(U:X.cell? ⟨b,7,none⟩=some q:=by exact kd):(∀w':World,Gr B w'→w'.cell? ⟨b,0,none⟩=some v0)∧(∀w':World,Gr B w'→w'.cell? ⟨b,1,none⟩=some v1)∧(∀w':World,Gr B w'→w'.cell? ⟨b,2,none⟩=some v2)∧(∀w':World,Gr B w'→w'.cell? ⟨b,3,none⟩=some v3)∧(∀w':World,Gr B w'→w'.cell? ⟨b,4,none⟩=some v4)∧(∀w':World,Gr B w'→w'.cell? ⟨b,5,none⟩=some v5)∧(∀w':World,Gr B w'→w'.cell? ⟨b,6,none⟩=some v6)∧(∀w':World,Gr B w'→w'.cell? ⟨b,7,none⟩=some q):=⟨fun w' g=>g.keep (h▸D),fun w' g=>g.keep (h▸h1),fun w' g=>g.keep (h▸I),fun w' g=>g.keep (h▸J),fun w' g=>g.keep (h▸K),fun w' g=>g.keep (h▸O),fun w' g=>g.keep (h▸T),fun w' g=>g.keep (h▸U)⟩
theorem kb9{X B:World}(h:X=B)(b:Nat)(v0 v1 v2 v3 v4 v5 v6 q D:Value)(I:X.cell? ⟨b,0,none⟩=some v0:=by exact kd)(h1:X.cell? ⟨b,1,none⟩=some v1:=by exact kd)(J:X.cell? ⟨b,2,none⟩=some v2:=by exact kd)(K:X.cell? ⟨b,3,none⟩=some v3:=by exact kd)(O:X.cell? ⟨b,4,none⟩=some v4:=by exact kd)(T:X.cell? ⟨b,5,none⟩=some v5:=by exact kd)(U:X.cell? ⟨b,6,none⟩=some v6:=by exact kd)(V:X.cell? ⟨b,7,none⟩=some q:=by exact kd)(Y:X.cell? ⟨b,8,none⟩=some D:=by exact kd):(∀w':World,Gr B w'→w'.cell? ⟨b,0,none⟩=some v0)∧(∀w':World,Gr B w'→w'.cell? ⟨b,1,none⟩=some v1)∧(∀w':World,Gr B w'→w'.cell? ⟨b,2,none⟩=some v2)∧(∀w':World,Gr B w'→w'.cell? ⟨b,3,none⟩=some v3)∧(∀w':World,Gr B w'→w'.cell? ⟨b,4,none⟩=some v4)∧(∀w':World,Gr B w'→w'.cell? ⟨b,5,none⟩=some v5)∧(∀w':World,Gr B w'→w'.cell? ⟨b,6,none⟩=some v6)∧(∀w':World,Gr B w'→w'.cell? ⟨b,7,none⟩=some q)∧(∀w':World,Gr B w'→w'.cell? ⟨b,8,none⟩=some D):=⟨fun w' g=>g.keep (h▸I),fun w' g=>g.keep (h▸h1),fun w' g=>g.keep (h▸J),fun w' g=>g.keep (h▸K),fun w' g=>g.keep (h▸O),fun w' g=>g.keep (h▸T),fun w' g=>g.keep (h▸U),fun w' g=>g.keep (h▸V),fun w' g=>g.keep (h▸Y)⟩
theorem str_inj{a b:ByteArray}(h:a.toList=b.toList):a=b:=by
 rw[ByteArray.toList_eq,ByteArray.toList_eq] at h;exact ByteArray.ext (Array.toList_inj.1 h)
theorem lg{a b:ByteArray}(h:(!a.toList==b.toList)=true):a≠b:=by
 intro e;subst e;simp at h
theorem str_eq{a b:ByteArray}(h:(!a.toList==b.toList)=false):a=b:=str_inj (by simpa using h)
theorem int_ne{a b:Int}(h:(a !=b)=true):a≠b:=by simpa using h
theorem int_eq{a b:Int}(h:(a !=b)=false):a=b:=by simpa using h
theorem iy{α:Type}[DecidableEq α]{a b:α}(h:(!decide (a=b))=true):a≠b:=by simpa using h
theorem iq{α:Type}[DecidableEq α]{a b:α}(h:(!decide (a=b))=false):a=b:=by simpa using h
theorem ru{A h:World}{x:Ext}{fp:List Nat}(B:aY A fp)(q:h.heap.size=A.heap.size):fB fp (A.ext x) (h.ext x):=by
 intro b hb
 have:=B.2 b hb;simp only[World.ext,Array.getElem?_append,q];rw[if_neg (by omega),if_neg (by omega)]
theorem SlR.moved{α:Type}[Rd α]{A q W:World}{x:Ext}{fp:List Nat}{v:Value}{xs:List α}(h:SlR fp (A.ext x) v xs)(D:aY A fp)(hg:Gr (q.ext x) W)(B:q.heap.size=A.heap.size):SlR fp W v xs:=
 (h.mono (ru D B)).gr hg
theorem Rd.moved{α:Type}[Rd α]{A q W:World}{x:Ext}{fp:List Nat}{cs:List Value}{y:α}(h:Rd.rd fp (A.ext x) cs y)(D:aY A fp)(hg:Gr (q.ext x) W)(B:q.heap.size=A.heap.size):Rd.rd fp W cs y:=
 Rd.gr (Rd.mono (ru D B) h) hg
theorem aY.app{w B w1:World}{fp fq:List Nat}(h:aY w fp)(hm:∀b∈fp,b<B.heap.size)(k:aY w1 fq)(hs:B.heap.size≤w1.heap.size)(hw:w.heap.size≤w1.heap.size):aY w (fp++fq):=
 h.append hw (fun b hb=>Nat.lt_of_lt_of_le (hm b hb) hs) k
theorem Tryz.IL:(Tryz.prog.info? 3).map (fun i=>(i.zero,i.size,i.bytes))=some (some (.int .i64 0),1,8):=by kernel_rfl
theorem Ef(fp:List Nat)(u:Value)(xs:List Int)(left:Int)(w:World)(hu:SlR fp w u xs)(h:-1≤left)(h1:left≤1048576):
  Calls Tryz.prog 92 #[u,.int .i64 left] w fun e w'=>e=.returned (.int .i64 (less left xs.length))∧w=w':=by
 obtain⟨a,q,rfl,g1,g2,g3⟩:=hu.open;go_in
 go_wp2
 all_goals
  go_ret;refine⟨aC ?_,rfl⟩;unfold less
  first|rw[if_pos (by omega)]|rw[if_neg (by omega)]
theorem DI(fp:List Nat)(u:Value)(xs:List Int)(w:World)(hu:SlR fp w u xs)(hlen:xs.length≤1048576):
  Calls Tryz.prog 103 #[u] w fun e w'=>∃v fq,e=.returned v∧SlR fq w' v xs∧aY w fq∧Gr w w':=by
 obtain⟨a,ca,rfl,h1,h2,V⟩:=hu.open;obtain⟨i0,hi,I,J,K⟩:=info_parts Tryz.IL;have q:=fun(W:World)=>run_make (P:=Tryz.prog) W 54 3 i0 (.int .i64 0) Tryz.underlying54 hi I .i64 .i64 xs.length xs.length (by omega) (by omega) (by rw[K];omega) (by omega)
 rw[J] at q;clear hi I J K;simp only[Int.toNat_natCast,Nat.mul_one] at q;have B:=size_madeCells (Value.int .i64 0).cells xs.length;generalize madeCells (Value.int .i64 0).cells xs.length=C0 at q B;have Z:=Kz B;clear B;go_in
 go_wp2
 go_loopw [4] (fun T wr=>∃(k:Nat) (C:Array Value),k≤xs.length∧C.size=xs.length∧(∀j (h:j<xs.length),j<k→C[j]?=some (.int .i64 xs[j]))∧wr=w.alloc (.cells C 3)∧T=.int .i64 k) (fun T _=>xs.length - (intOf T).toNat)
 case atStart=>exact⟨0,C0,by omega,Z.o,by omega,rfl,rfl⟩
 case round=>
  obtain⟨k,C,hk,U,ht,rfl,rfl⟩:=hrel;have hT:=Kz ht;have X:=Kz U
  by_cases O:k<xs.length
  ·obtain⟨b,off,rfl,hb⟩:=V k O
   have x1:=(hu.fQ O).1;have y1:k<C.size:=by omega
   clear ht U V
   go_wp2
   refine⟨⟨k+1,_,by omega,by simp[X.o],fun j D ae=>?_,rfl,by go_num⟩,by simp[intOf];omega⟩;rw[Array.getElem?_setIfInBounds]
   split
   ·rename_i e;subst e;rfl
   ·exact hT.o j D (by omega)
  ·have Y:k=xs.length:=by omega
   subst Y
   obtain⟨fq,hs,hf⟩:=SlR.flat (w:=w.alloc (.cells C 3)) (b:=w.heap.size) (C:=C) (t:=3) (cap:=xs.length) (xs:=xs) (heap_alloc_new w _) rfl
    (fun j D=>⟨_,ht j D D,rfl,rfl,hu.Eu D⟩) (Nat.le_refl _) (by unfold bn;omega)
   have HF:=Kz hs;clear hs ht U
   go_wp2
   go_ret;exact⟨_,fq,rfl,HF.o,aY.of_flat hf (Nat.le_refl _),(Gr.refl w).alloc _⟩
theorem FJ(fp:List Nat)(u:Value)(xs:List Int)(left:Int)(w:World)(hu:SlR fp w u xs)(h:-1≤left)(h1:left≤1048576):
  Qz 92 #[u,.int .i64 left] w (.int .i64 (less left xs.length)):=
 (Ef fp u xs left w hu h h1).mono fun _ _ ⟨he,hw⟩=>⟨he,hw▸Gr.refl w⟩
theorem ET{a b:Bool}(h:(a !=b)=true):a≠b:=by simpa using h
theorem Fa{a b:Bool}(h:(a !=b)=false):a=b:=by simpa using h
theorem Tryz.Hm:(Tryz.prog.info? 9).map (fun i=>(i.zero,i.size,i.bytes))=some (some (.string ByteArray.empty),1,16):=by kernel_rfl
def cu(xs:List ByteArray):Nat:=wtL ByteArray.size xs
theorem yj(fp fq:List Nat)(u v:Value)(xs q:List ByteArray)(w:World)(hu:SlR fp w u xs)(hv:SlR fq w v q):
  Qz 112 #[u,v] w (.bool (decide (xs=q))):=by
 obtain⟨a,ca,rfl,h1,h2,U⟩:=hu.open;obtain⟨c,cc,rfl,g1,g2,g3⟩:=hv.open
 by_cases D:xs.length=q.length
 ·have K:=Kz D
  have V:((xs.length:Int)!=(q.length:Int))=false:=by simp[D]
  clear D;delta Qz;go_in
  go_wp2
  go_loopw [5] (fun O wr=>∃k:Nat,k≤xs.length∧xs.take k=q.take k∧Gr w wr∧O=.int .i64 k) (fun O _=>xs.length - (intOf O).toNat)
  case atStart=>exact⟨0,by omega,rfl,Gr.refl w,rfl⟩
  case round=>
   obtain⟨k,hk,ht,⟨x,rfl⟩,rfl⟩:=hrel
   by_cases I:k<xs.length
   ·have B:k<q.length:=by have:=K.o;omega
    obtain⟨b,off,rfl,hb⟩:=U k I;obtain⟨b',Y,rfl,ae⟩:=g3 k B;have x1:=(hu.jl I).1;have x2:=(hv.jl B).1;have Z:=Kz ht;clear U g3 ht;go_wp2_with fail;refine wg ?_
    repeat(go_big_quiet_step (fail))
    refine wq fun nx=>?_
    go_wp2
    ·rename_i T
     go_ret;have J:xs[k]≠q[k]:=lg (by simpa using T);have E:xs≠q:=fun e=>J (by subst e;rfl)
     exact⟨aa (decide_eq_false E).symm,((Gr.refl w).ext _).ext _⟩
    ·rename_i T
     have J:xs[k]=q[k]:=str_inj (by simpa using T);refine⟨⟨k+1,by omega,?_,((Gr.refl w).ext _).ext _,by go_num⟩,by simp[intOf];omega⟩;rw[List.take_succ_eq_append_getElem I,List.take_succ_eq_append_getElem B,Z.o,J]
   ·have X:k=xs.length:=by omega
    subst X
    have e:xs=q:=by
     have h:=ht;have h':=K.o;rw[List.take_length,h',List.take_length] at h;exact h
    have E:=Kz e;clear e ht
    go_wp2
    go_ret;exact⟨aa (decide_eq_true E.o).symm,(Gr.refl w).ext _⟩
 ·have V:((xs.length:Int)!=(q.length:Int))=true:=by simp;omega
  have e:xs≠q:=fun e=>D (by rw[e])
  have E:=Kz e;clear e D;delta Qz;go_in
  go_wp2
  go_ret;exact⟨aa (decide_eq_false E.o).symm,Gr.refl w⟩
theorem yF(fp:List Nat)(u:Value)(xs:List ByteArray)(w:World)(hu:SlR fp w u xs)(hlen:xs.length≤1048576):
  Calls Tryz.prog 100 #[u] w fun e w'=>∃v fq,e=.returned v∧SlR fq w' v xs∧aY w fq∧Gr w w':=by
 obtain⟨a,ca,rfl,h1,h2,T⟩:=hu.open;obtain⟨i0,hi,I,J,K⟩:=info_parts Tryz.Hm;have B:=fun(W:World)=>run_make (P:=Tryz.prog) W 108 9 i0 (.string ByteArray.empty) Tryz.underlying108 hi I .i64 .i64 xs.length xs.length (by omega) (by omega) (by rw[K];omega) (by omega)
 rw[J] at B;clear hi I J K;simp only[Int.toNat_natCast,Nat.mul_one] at B;have D:=size_madeCells (Value.string ByteArray.empty).cells xs.length;generalize madeCells (Value.string ByteArray.empty).cells xs.length=C0 at B D;have Z:=Kz D;clear D;go_in
 go_wp2
 go_loopw [4] (fun U wr=>∃(k:Nat) (C:Array Value),k≤xs.length∧C.size=xs.length∧(∀j (h:j<xs.length),j<k→C[j]?=some (.string xs[j]))∧wr=w.alloc (.cells C 9)∧U=.int .i64 k) (fun U _=>xs.length - (intOf U).toNat)
 case atStart=>exact⟨0,C0,by omega,Z.o,by omega,rfl,rfl⟩
 case round=>
  obtain⟨k,C,hk,V,ht,rfl,rfl⟩:=hrel;have hT:=Kz ht;have X:=Kz V
  by_cases O:k<xs.length
  ·obtain⟨b,off,rfl,hb⟩:=T k O
   have x1:=(hu.jl O).1;have y1:k<C.size:=by omega
   clear ht V T
   go_wp2
   refine⟨⟨k+1,_,by omega,by simp[X.o],fun j q ae=>?_,rfl,by go_num⟩,by simp[intOf];omega⟩;rw[Array.getElem?_setIfInBounds]
   split
   ·rename_i e;subst e;rfl
   ·exact hT.o j q (by omega)
  ·have Y:k=xs.length:=by omega
   subst Y
   have hW:∀j (q:j<xs.length),xs[j].size≤maxLen:=fun j q=>by
    obtain⟨b,off,rfl,hb⟩:=T j q;exact(hu.jl q).2
   obtain⟨fq,hs,hf⟩:=SlR.flat (w:=w.alloc (.cells C 9)) (b:=w.heap.size) (C:=C) (t:=9) (cap:=xs.length) (xs:=xs) (heap_alloc_new w _) rfl
    (fun j q=>⟨_,ht j q q,rfl,rfl,hW j q⟩) (Nat.le_refl _) (by unfold bn;omega)
   have HF:=Kz hs;clear hs ht V
   go_wp2
   go_ret;exact⟨_,fq,rfl,HF.o,aY.of_flat hf (Nat.le_refl _),(Gr.refl w).alloc _⟩
theorem yE(fp:List Nat)(u:Value)(xs:List ByteArray)(left:Int)(w:World)(hu:SlR fp w u xs)(Z:0≤left)(h1:left≤1048576):
  Qz 89 #[u,.int .i64 left] w (.int .i64 (less left (cu xs))):=by
 obtain⟨a,ca,rfl,g1,g2,g3⟩:=hu.open
 by_cases K:left - xs.length<0
 ·have hle:less left (cu xs)= -1:=by unfold less cu wtL;rw[if_pos (by omega)]
  have HL:=Kz hle;clear hle;delta Qz;go_in
  go_wp2
  go_ret;exact⟨aC HL.o.symm,Gr.refl w⟩
 ·have D:less left xs.length=left - xs.length:=by unfold less;rw[if_neg K]
  have U:=Kz D;clear D;delta Qz;go_in
  go_wp2
  go_loopw [5,1] (fun O s1 wr=>∃(k:Nat) (m:Int),k≤xs.length∧0≤m∧m≤1048576∧Ky (m=less left (xs.length+((xs.take k).map ByteArray.size).sum))∧Gr w wr∧O=.int .i64 k∧s1=.int .i64 m) (fun O _ _=>xs.length - (intOf O).toNat)
  case atStart=>exact⟨0,_,by omega,by omega,by omega,Kz (by simp[U.o]),Gr.refl w,rfl,rfl⟩
  case round=>
   obtain⟨k,m,hk,V,ae,hm,⟨x,rfl⟩,rfl,rfl⟩:=hrel
   by_cases q:k<xs.length
   ·obtain⟨b,off,rfl,hb⟩:=g3 k q
    have h:=Kz (eZ ByteArray.size xs k q);obtain⟨z0,I⟩:=hu.jl q;obtain⟨s,hs⟩:=nm (xs[k]);rw[←hs] at z0 I h;unfold maxLen at I;clear g3 hs
    by_cases T:m - s.size<0
    ·go_wp2_with fail
     go_ret;refine⟨aC ?_,gd⟩;have e:=hm.o;subst e;have J:less (less left (xs.length+((xs.take k).map ByteArray.size).sum)) s.size<0:=by unfold less;unfold less at T V;split at T<;>split<;>omega
     rw[fE,Nat.add_assoc,←h.o] at J;exact(jV J (Nat.add_le_add_left (gJ ByteArray.size xs (k+1)) _) Z).symm
    ·have X:0≤m - s.size:=by omega
     go_wp2_with fail;refine⟨⟨k+1,m - s.size,by omega,X,by omega,Kz ?_,gd,by go_num,rfl⟩,by simp[intOf];omega⟩;rw[h.o,←Nat.add_assoc,←fE,←hm.o];unfold less;rw[if_neg T]
   ·have Y:k=xs.length:=by omega
    subst Y;have B:=hm.o;rw[List.take_length] at B;have HM:=Kz B;clear B hm
    go_wp2
    go_ret;exact⟨aC HM.o,gd⟩
theorem mf{α:Type}{p:α→Bool}{xs:List α}{k:Nat}(hk:k<xs.length)(q:p xs[k]=true)(h:∀j (h:j<xs.length),j<k→p xs[j]=false):xs.find? p=some xs[k]:=by
 induction xs generalizing k with
 |nil=>simp at hk
 |cons x xs D=>
  cases k with
  |zero=>simp at q;simp[q]
  |succ k=>
   have B:=h 0 (by simp) (by omega);simp at B
   have:=D (k:=k) (by simpa using hk) (by simpa using q) (fun j J I=>by
    have h1:=h (j+1) (by simp;omega) (by omega)
    rwa [List.getElem_cons_succ] at h1)
   simp[B,this]
theorem jU{α:Type}{p:α→Bool}{xs:List α}(h:∀j (h:j<xs.length),p xs[j]=false):xs.find? p=none:=by
 rw[List.find?_eq_none];intro x q
 obtain⟨j,B,rfl⟩:=List.mem_iff_getElem.1 q;simp[h j B]
theorem SlR.J4{α:Type}[Rd α]{fp:List Nat}{w:World}{a:Option Addr}{len cap:Nat}{xs:List α}(h:SlR fp w (.slice a len cap) xs){k:Nat}(hk:k≤xs.length):∃fq,SlR fq w (.slice a k cap) (xs.take k):=by
 obtain⟨Y,D,hv,h1,Z,I⟩:=h;injection hv with J e2 K;subst J K;have q:(xs.take k).length=k:=by simp;omega
 by_cases O:k=0
 ·subst O
  exact⟨[],a,cap,by simp,by simp,by simp,.inl ⟨by simp,rfl⟩⟩
 ·rcases I with⟨rfl,_⟩|⟨b,off,fps,V,rfl,_,hlen,B,T⟩
  ·simp at hk;omega
  ·refine⟨b::(fps.take k).flatten,some ⟨b,off,none⟩,cap,by rw[q],by rw[q];omega,by rw[q];omega,.inr ⟨b,off,fps.take k,fun e=>by rw[e] at q;simp at q;omega,rfl,rfl,by simp;omega,fun j U=>B j (Nat.lt_of_lt_of_le U (Nat.mul_le_mul_right _ (by omega))),fun i hi X=>?_⟩⟩
   obtain⟨cs,hc,hr⟩:=T i (by omega) (by omega);exact⟨cs,hc,by simpa using hr⟩
section
variable{P:Program}{ops:Array Oper}{Q:Exit→Act→World→Prop}{md:Region.Mode}{S:World→Prop}
end
end Go.Proofs.YtleafadpfeibfaaGreat
namespace Go.Proofs.YtleafadpfeibfaaGreat.fnExactReadsOf
open Go.ChangeShapes Go.WideShapes Go.RowKit
theorem Ko:((Rows.fnExactReadsOfRow.named==Tryz.pinned.checked.prog.varsNamed 3))=true:=by kernel_rfl
theorem JG:(mapsRowed Tryz.pinned.checked.prog)=true:=by kernel_rfl
theorem JK:(Tryz.f3.params.all (Tryz.pinned.checked.prog.readableRec ·))=true:=by kernel_rfl
theorem IW:(namedTie Tryz.pinned.checked.prog Rows.fnExactReadsOfRow.named Rows.fnExactReadsOfSpec.vars)=true:=by kernel_rfl
theorem IA:((Tryz.pinned.checked.prog.stops==[]))=true:=by kernel_rfl
theorem IZ:((Tryz.pinned.checked.prog.stopKnobs==[]))=true:=by kernel_rfl
end Go.Proofs.YtleafadpfeibfaaGreat.fnExactReadsOf
