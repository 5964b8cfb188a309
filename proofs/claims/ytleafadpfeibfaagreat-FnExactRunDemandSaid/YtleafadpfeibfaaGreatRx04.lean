/- Contracts and laws towards ReadsOf, part 6 of 54. No condition. -/
import Derived.Test.YtleafadpfeibfaaGreatRx02
import Derived.Maps.AppendAt
import Derived.Deep.Upon
set_option maxHeartbeats 32000000
set_option maxRecDepth 10000
set_option linter.unusedVariables false
set_option linter.unusedSimpArgs false
namespace Go.Proofs.YtleafadpfeibfaaGreat
open Go.RowKit
structure Wr(fp:List Nat)(w w':World):Prop where
 os:w'.os=w.os
 tape:w'.tape=w.tape
 output:w'.output=w.output
 size:w.heap.size≤w'.heap.size
 drawn:w.drawn≤w'.drawn
 block:∀b,b<w.heap.size→b∉fp→w'.heap[b]?=w.heap[b]?
theorem Wr.refl(fp:List Nat)(w:World):Wr fp w w:=⟨rfl,rfl,rfl,Nat.le_refl _,Nat.le_refl _,fun _ _ _=>rfl⟩
theorem Wr.trans{fp:List Nat}{a b c:World}(h:Wr fp a b)(k:Wr fp b c):Wr fp a c:=
 ⟨k.os.trans h.os,k.tape.trans h.tape,k.output.trans h.output,Nat.le_trans h.size k.size,Nat.le_trans h.drawn k.drawn,
  fun x q hn=>(k.block x (Nat.lt_of_lt_of_le q h.size) hn).trans (h.block x q hn)⟩
theorem Wr.sub{fp fq:List Nat}{a b:World}(h:Wr fp a b)(hs:∀c∈fp,c∈fq):Wr fq a b:=
 ⟨h.os,h.tape,h.output,h.size,h.drawn,fun x q hn=>h.block x q fun e=>hn (hs x e)⟩
theorem Gr.eF{w w':World}(h:Gr w w')(fp:List Nat):Wr fp w w':=by
 obtain⟨x,rfl⟩:=h;exact⟨rfl,rfl,rfl,by simp,by simp,fun b hb _=>mW w x hb⟩
theorem Wr.gr{fp:List Nat}{a b c:World}(h:Wr fp a b)(k:Gr b c):Wr fp a c:=h.trans (k.eF fp)
theorem heap_setCell{w:World}{b o c:Nat}{v:Value}(h:c≠b):(w.setCell ⟨b,o,none⟩ v).heap[c]?=w.heap[c]?:=by
 unfold World.setCell;simp only[Array.getElem?_modify];rw[if_neg (fun e=>h e.symm)]
theorem yP{w:World}{a:Addr}{v:Value}:(w.setCell a v).heap.size=w.heap.size:=by
 unfold World.setCell;simp
theorem Wr.setCell{fp:List Nat}{a c:World}(h:Wr fp a c){b o:Nat}(hb:b∈fp)(v:Value):Wr fp a (c.setCell ⟨b,o,none⟩ v):=
 ⟨h.os,h.tape,h.output,by rw[yP];exact h.size,h.drawn,fun x q hn=>by rw[heap_setCell (fun e=>hn (by rw[e];exact hb))];exact h.block x q hn⟩
theorem Gr.wr{w0 w w':World}{fp:List Nat}(h:Gr w0 w)(k:Wr fp w w')(q:∀b∈fp,w0.heap.size≤b):Gr w0 w':=
 Gr.of_below ⟨k.os.trans h.below.os,k.tape.trans h.below.tape,k.output.trans h.below.output,Nat.le_trans h.below.size k.size,
  fun b hb=>(k.block b (Nat.lt_of_lt_of_le hb h.below.size) (fun e=>by have:=q b e;omega)).trans (h.below.block b hb)⟩ (Nat.le_trans h.drawn k.drawn)
theorem Wr.lN{fp fq:List Nat}{w w':World}(h:Wr fp w w')(q:∀b∈fq,b<w.heap.size)(B:∀b∈fq,b∉fp):fB fq w w':=
 fun b hb=>h.block b (q b hb) (B b hb)
theorem SlR.wr{α:Type}[Rd α]{fp fq:List Nat}{w w':World}{v:Value}{xs:List α}(h:SlR fq w v xs)(k:Wr fp w w')(q:∀b∈fq,b∉fp):SlR fq w' v xs:=
 h.mono (k.lN h.lt q)
theorem Rd.wr{α:Type}[Rd α]{fp fq:List Nat}{w w':World}{cs:List Value}{x:α}(h:Rd.rd fq w cs x)(k:Wr fp w w')(q:∀b∈fq,b∉fp):Rd.rd fq w' cs x:=
 Rd.mono (k.lN (Rd.lt h) q) h
structure Foc(b lo n:Nat)(fq:List Nat)(w w':World):Prop where
 wr:Wr (b::fq) w w'
 cell:∀o,o<lo∨lo+n≤o→w'.cell? ⟨b,o,none⟩=w.cell? ⟨b,o,none⟩
 frozen:∀o,w'.frozen? ⟨b,o,none⟩=w.frozen? ⟨b,o,none⟩
theorem jR{w:World}{b o o':Nat}{v:Value}(h:o'≠o):(w.setCell ⟨b,o,none⟩ v).cell? ⟨b,o',none⟩=w.cell? ⟨b,o',none⟩:=by
 unfold World.cell? World.setCell;simp only[Array.getElem?_modify,if_pos]
 cases hb:w.heap[b]? with
 |none=>rfl
 |some x=>
  cases x<;>simp[Ne.symm h]
theorem cne(b o o':Nat)(h:o'≠o:=by omega)(w:World)(v:Value):(w.setCell ⟨b,o,none⟩ v).cell? ⟨b,o',none⟩=w.cell? ⟨b,o',none⟩:=jR h
theorem iY{w:World}{b o:Nat}{u v:Value}(h:w.cell? ⟨b,o,none⟩=some u):(w.setCell ⟨b,o,none⟩ v).cell? ⟨b,o,none⟩=some v:=by
 unfold World.cell? at h
 split at h
 ·rename_i c t fr hb
  have hc:c[o]?=some u:=by simpa using h
  have q:o<c.size:=(Array.getElem?_eq_some_iff.1 hc).1;unfold World.cell? World.setCell;simp only[Array.getElem?_modify,if_pos];simp only[] at hb;rw[hb];simp[q]
 ·cases h
theorem eQ{w:World}{b c o o':Nat}{v:Value}:(w.setCell ⟨b,o,none⟩ v).frozen? ⟨c,o',none⟩=w.frozen? ⟨c,o',none⟩:=by
 unfold World.frozen? World.setCell;simp only[Array.getElem?_modify]
 by_cases e:b=c
 ·subst e
  simp only[if_pos]
  cases hb:w.heap[b]? with
  |none=>rfl
  |some x=>cases x<;>rfl
 ·rw[if_neg e]
theorem Foc.refl(b lo n:Nat)(fq:List Nat)(w:World):Foc b lo n fq w w:=⟨Wr.refl _ _,fun _ _=>rfl,fun _=>rfl⟩
theorem Foc.set{b lo n:Nat}{fq:List Nat}{w w':World}(h:Foc b lo n fq w w'){o:Nat}(h1:lo≤o)(B:o<lo+n)(v:Value):Foc b lo n fq w (w'.setCell ⟨b,o,none⟩ v):=
 ⟨h.wr.setCell (by simp) v,fun o' q=>by rw[jR (by omega)];exact h.cell o' q,fun o'=>by rw[eQ];exact h.frozen o'⟩
theorem Foc.inner{b lo n:Nat}{fq B:List Nat}{w w' q:World}(h:Foc b lo n fq w w')(hb:b<w.heap.size)(k:Wr B w' q)(hs:∀c∈B,c∈fq)(hn:b∉B):Foc b lo n fq w q:=by
 have e:q.heap[b]?=w'.heap[b]?:=k.block b (Nat.lt_of_lt_of_le hb h.wr.size) hn
 exact⟨h.wr.trans (k.sub fun c hc=>List.mem_cons_of_mem _ (hs c hc)),fun o D=>(World.cell?_of_block (a:=⟨b,o,none⟩) e).trans (h.cell o D),
  fun o=>(World.frozen?_of_block (a:=⟨b,o,none⟩) e).trans (h.frozen o)⟩
theorem Foc.gr{b lo n:Nat}{fq:List Nat}{w w' q:World}(h:Foc b lo n fq w w')(hb:b<w.heap.size)(k:Gr w' q):Foc b lo n fq w q:=
 h.inner hb (k.eF []) (by simp) (by simp)
theorem pF{a b:List Nat}(h:(a++b).Nodup):a.Nodup∧b.Nodup∧∀c∈a,c∉b:=by
 obtain⟨h1,q,B⟩:=List.nodup_append.1 h;exact⟨h1,q,fun c hc D=>B c hc c D rfl⟩
theorem SlR.focus{α:Type}[Rd α]{fp:List Nat}{w:World}{b off len cap:Nat}{xs:List α}(h:SlR fp w (.slice (some ⟨b,off,none⟩) len cap) xs)(ah:fp.Nodup){i:Nat}(hi:i<xs.length):
  ∃cs fq,jP w b (off+i*Rd.n α) cs∧Rd.rd fq w cs xs[i]∧(∀c∈fq,c∈fp)∧b∈fp∧b∉fq∧fq.Nodup∧
   (∀j,j<Rd.n α→w.frozen? ⟨b,off+i*Rd.n α+j,none⟩=false)∧
   ∀w' I y,Foc b (off+i*Rd.n α) (Rd.n α) fq w w'→jP w' b (off+i*Rd.n α) I→Rd.rd fq w' I y→SlR fp w' (.slice (some ⟨b,off,none⟩) len cap) (xs.set i y):=by
 have aZ:=h.lt;obtain⟨a,ax,hv,h1,h2,⟨rfl,rfl⟩|⟨b',ay,fps,ai,rfl,rfl,hl,Y,hx⟩⟩:=h
 ·simp at hi
 ·injection hv with O e2 e3
  injection O with O;injection O with O e4 _;subst O e4 e2 e3;have q:=List.nodup_cons.1 ah;have T:=List.pairwise_flatten.1 q.2;have Z:=List.pairwise_iff_getElem.1 T.2;obtain⟨cs,hc,hr⟩:=hx i hi (by omega);have hmem:∀c∈fps[i]'(by omega),c∈fps.flatten:=fun c hc=>List.mem_flatten.2 ⟨_,List.getElem_mem _,hc⟩
  refine⟨cs,fps[i]'(by omega),hc,hr,fun c hc=>List.mem_cons_of_mem _ (hmem c hc),by simp,fun e=>q.1 (hmem _ e),T.1 _ (List.getElem_mem _),fun j U=>?_,fun w' I y hF aj ak=>?_⟩
  ·have:=Y (i*Rd.n α+j) (by
    have:(i+1)*Rd.n α≤xs.length*Rd.n α:=Nat.mul_le_mul_right _ hi;rw[Nat.add_mul] at this;omega)
   rwa [←Nat.add_assoc] at this
  ·refine⟨_,cap,by simp,by simpa using h1,by simpa using h2,.inr ⟨b,off,fps,fun e=>ai (List.length_eq_zero_iff.1 (by have:=congrArg List.length e;simpa using this)),rfl,rfl,by simpa using hl,fun j U=>by rw[hF.frozen];exact Y j (by simpa using U),fun k hk V=>?_⟩⟩
   simp only[List.length_set] at hk
   by_cases J:k=i
   ·subst J
    exact⟨I,aj,by simpa using ak⟩
   ·obtain⟨ck,au,ae⟩:=hx k hk V
    refine⟨ck,fun j v U=>?_,?_⟩
    ·have bg:j<Rd.n α:=by
      have:=Rd.len ae;have:=(List.getElem?_eq_some_iff.1 U).1;omega
     rw[hF.cell _ ?_]
     ·exact au j v U
     ·rcases Nat.lt_or_gt_of_ne J with B|X
      ·left
       have:(k+1)*Rd.n α≤i*Rd.n α:=Nat.mul_le_mul_right _ B;rw[Nat.add_mul] at this;omega
      ·right
       have:(i+1)*Rd.n α≤k*Rd.n α:=Nat.mul_le_mul_right _ X;rw[Nat.add_mul] at this;omega
    ·rw[List.getElem_set_ne (fun e=>J e.symm)]
     refine Rd.wr ae hF.wr fun c D K=>?_
     rcases List.mem_cons.1 K with e|K
     ·subst e
      exact q.1 (List.mem_flatten.2 ⟨_,List.getElem_mem _,D⟩)
     ·rcases Nat.lt_or_gt_of_ne J with B|X
      ·exact Z k i V (by omega) B c D c K rfl
      ·exact Z i k (by omega) V X c K c D rfl
def gK{α:Type}(f:Int→α→α×Int):Int→List α→List α×Int
 |k,[]=>([],k)
 |k,x::xs=>((f k x).1::(gK f (f k x).2 xs).1,(gK f (f k x).2 xs).2)
theorem jT{α:Type}(f:Int→α→α×Int)(xs:List α):∀k,(gK f k xs).1.length=xs.length:=by
 induction xs with
 |nil=>intro k;rfl
 |cons x xs h=>intro k;simp[gK,h]
theorem lD{α:Type}(f:Int→α→α×Int)(xs h:List α):∀k,gK f k (xs++h)=((gK f k xs).1++(gK f (gK f k xs).2 h).1,(gK f (gK f k xs).2 h).2):=by
 induction xs with
 |nil=>intro k;rfl
 |cons x xs q=>intro k;simp[gK,q]
def markT{α:Type}(f:Int→α→α×Int)(k:Int)(xs:List α)(i:Nat):List α:=(gK f k (xs.take i)).1++xs.drop i
theorem iE{α:Type}(f:Int→α→α×Int)(k:Int)(xs:List α):markT f k xs 0=xs:=by simp[markT,gK]
theorem jb{α:Type}(f:Int→α→α×Int)(k:Int)(xs:List α):markT f k xs xs.length=(gK f k xs).1:=by simp[markT]
theorem iJ{α:Type}(f:Int→α→α×Int)(k:Int)(xs:List α)(i:Nat):(markT f k xs i).length=xs.length:=by
 simp[markT,jT];omega
theorem kQ{α:Type}(f:Int→α→α×Int)(k:Int)(xs:List α){i:Nat}(hi:i<xs.length):(markT f k xs i)[i]'(by rw[iJ];exact hi)=xs[i]:=by
 unfold markT;rw[List.getElem_append_right (by simp[jT];omega)];simp[jT,Nat.min_eq_left (Nat.le_of_lt hi)]
theorem iA{α:Type}(f:Int→α→α×Int)(k:Int)(xs:List α){i:Nat}(hi:i<xs.length):
  markT f k xs (i+1)=(markT f k xs i).set i (f (gK f k (xs.take i)).2 xs[i]).1:=by
 unfold markT;rw[List.take_succ_eq_append_getElem hi,lD];have h:(gK f k (xs.take i)).1.length=i:=by simp[jT];omega
 rw[List.set_append_right _ _ (by omega),h,Nat.sub_self];rw[List.drop_eq_getElem_cons hi];simp only[gK,List.set_cons_zero,List.append_assoc,List.cons_append,List.nil_append]
theorem dF{α:Type}(f:Int→α→α×Int)(k:Int)(xs:List α){i:Nat}(hi:i<xs.length):
  (gK f k (xs.take (i+1))).2=(f (gK f k (xs.take i)).2 xs[i]).2:=by
 rw[List.take_succ_eq_append_getElem hi,lD];rfl
theorem H7{α:Type}(f:Int→α→α×Int)(k:Int)(xs:List α){i:Nat}(hi:i<xs.length):
  (gK f k xs).1[i]'(by rw[jT];exact hi)=(f (gK f k (xs.take i)).2 xs[i]).1:=by
 have h:gK f k xs=gK f k (xs.take i++xs.drop i):=by rw[List.take_append_drop]
 have q:(gK f k (xs.take i)).1.length=i:=by simp[jT];omega
 have B:(gK f k xs).1=(gK f k (xs.take i)).1++(gK f (gK f k (xs.take i)).2 (xs.drop i)).1:=by rw[h,lD]
 have D:(gK f k xs).1[i]?=some (f (gK f k (xs.take i)).2 xs[i]).1:=by
  rw[B,List.getElem?_append_right (by omega),q,Nat.sub_self,List.drop_eq_getElem_cons hi];simp[gK]
 exact(List.getElem_eq_iff _).2 D
theorem El{w w':World}{base n size:Nat}{e:TypeId}{v:Value}{xs:List Value}(h:w.ownsRow base e size v n xs)(hg:Gr w w'):w'.ownsRow base e size v n xs:=
 h.kept (row:=none) ⟨hg.below.os,hg.below.tape,hg.below.output,hg.below.size,fun k hk _=>hg.below.block k hk⟩ (by cases hb:v.ownBlock<;>simp)
theorem jm{y:Int}(h:0≤y)(h1:y≤140737488351232):(Lit.int .i64 y).wf=true:=by
 simp only[Lit.wf,Bool.and_eq_true,decide_eq_true_eq];have q:IntKind.i64.min= -9223372036854775808:=by decide
 have B:IntKind.i64.max=9223372036854775807:=by decide
 omega
theorem rO{y:Int}(h:(Lit.int .i64 y).wf=true)(w:World):Rd.rd (α:=Int) [] w [.int .i64 y] y:=⟨rfl,rfl,h⟩
theorem Gr.grown{w0 w w':World}(h:Gr w0 w){row:Option Nat}(hg:w.grownBy w' row)(hrow:∀b,row=some b→w0.heap.size≤b)(q:w.drawn≤w'.drawn):Gr w0 w':=by
 refine Gr.of_below ⟨hg.os.trans h.below.os,hg.tape.trans h.below.tape,hg.output.trans h.below.output,Nat.le_trans h.below.size hg.size,fun k hk=>?_⟩ (Nat.le_trans h.drawn q)
 rw[hg.block k (Nat.lt_of_lt_of_le hk h.below.size) (fun e=>by have:=hrow k e.symm;omega)];exact h.below.block k hk
theorem flat_get{h:List (List Value)}{n:Nat}(hn:∀c∈h,c.length=n){i j:Nat}(hi:i<h.length)(D:j<n):h.flatten[i*n+j]?=h[i][j]?:=by
 induction h generalizing i with
 |nil=>simp at hi
 |cons c h q=>
  have hc:c.length=n:=hn c (by simp);rw[List.flatten_cons]
  cases i with
  |zero=>
   rw[Nat.zero_mul,Nat.zero_add,List.getElem?_append_left (by omega)];rfl
  |succ i=>
   rw[List.getElem?_append_right (by rw[hc,Nat.add_mul];omega),hc];have e:(i+1)*n+j - n=i*n+j:=by rw[Nat.add_mul];omega
   rw[e,q (fun d B=>hn d (List.mem_cons_of_mem _ B)) (by simpa using hi)];rfl
theorem nY{h:List (List Value)}{n:Nat}(hn:∀c∈h,c.length=n):h.flatten.length=h.length*n:=by
 induction h with
 |nil=>simp
 |cons c h q=>
  rw[List.flatten_cons,List.length_append,hn c (by simp),q (fun d B=>hn d (List.mem_cons_of_mem _ B)),List.length_cons,Nat.add_mul];omega
structure Els{α:Type}[Rd α](w:World)(css:List (List Value))(fps:List (List Nat))(xs:List α):Prop where
 cl:css.length=xs.length
 fl:fps.length=xs.length
 rd:∀i (h:i<xs.length) (h1:i<css.length) (h2:i<fps.length),Rd.rd fps[i] w css[i] xs[i]
theorem Els.nil{α:Type}[Rd α](w:World):Els (α:=α) w [] [] []:=⟨rfl,rfl,fun _ h=>absurd h (Nat.not_lt_zero _)⟩
theorem Els.one{α:Type}[Rd α]{w:World}{cs:List Value}{fq:List Nat}{x:α}(h:Rd.rd fq w cs x):Els w [cs] [fq] [x]:=
 ⟨rfl,rfl,fun i q _ _=>by
  obtain rfl:i=0:=by simpa using q
  exact h⟩
theorem Els.n{α:Type}[Rd α]{w:World}{q:List (List Value)}{fps:List (List Nat)}{xs:List α}(h:Els w q fps xs):∀c∈q,c.length=Rd.n α:=by
 intro c hc
 obtain⟨i,hi,rfl⟩:=List.mem_iff_getElem.1 hc;exact Rd.len (h.rd i (by rw[←h.cl];exact hi) hi (by rw[h.fl,←h.cl];exact hi))
theorem Els.mono{α:Type}[Rd α]{w w':World}{q:List (List Value)}{fps:List (List Nat)}{xs:List α}(h:Els w q fps xs)(hs:fB fps.flatten w w'):Els w' q fps xs:=
 ⟨h.cl,h.fl,fun i D h1 B=>Rd.mono (hs.sub fun _ hc=>List.mem_flatten.2 ⟨_,List.getElem_mem B,hc⟩) (h.rd i D h1 B)⟩
theorem Els.lt{α:Type}[Rd α]{w:World}{q:List (List Value)}{fps:List (List Nat)}{xs:List α}(h:Els w q fps xs):∀b∈fps.flatten,b<w.heap.size:=by
 intro b hb
 obtain⟨f,D,B⟩:=List.mem_flatten.1 hb;obtain⟨i,hi,rfl⟩:=List.mem_iff_getElem.1 D;exact Rd.lt (h.rd i (by rw[←h.fl];exact hi) (by rw[h.cl,←h.fl];exact hi) hi) b B
theorem Els.app{α:Type}[Rd α]{w:World}{q B:List (List Value)}{fps D:List (List Nat)}{xs I:List α}(h:Els w q fps xs)(k:Els w B D I):Els w (q++B) (fps++D) (xs++I):=by
 refine⟨by simp[h.cl,k.cl],by simp[h.fl,k.fl],fun i J h1 K=>?_⟩;have O:=h.cl;have T:=h.fl
 by_cases hi:i<xs.length
 ·rw[List.getElem_append_left (by omega),List.getElem_append_left (by omega),List.getElem_append_left hi]
  exact h.rd i hi _ _
 ·simp only[List.length_append] at J h1 K
  have r:=k.rd (i - xs.length) (by omega) (by have:=k.cl;omega) (by have:=k.fl;omega);rw[List.getElem_append_right (by omega),List.getElem_append_right (by omega),List.getElem_append_right (by omega)];simpa[O,T] using r
theorem Els.oneCell{α:Type}[Rd α]{w:World}{q:List (List Value)}{fps:List (List Nat)}{xs:List α}(h:Els w q fps xs):∀u∈q.flatten,u.oneCell'=true:=by
 intro u hu
 obtain⟨c,hc,B⟩:=List.mem_flatten.1 hu;obtain⟨i,hi,rfl⟩:=List.mem_iff_getElem.1 hc;exact Rd.one (h.rd i (by rw[←h.cl];exact hi) hi (by rw[h.fl,←h.cl];exact hi)) u B
structure bE{α:Type}[Rd α](w0:World)(e:TypeId)(w:World)(v:Value)(fps:List (List Nat))(xs:List α):Prop where
 own:∃css:List (List Value),w.ownsRow w0.heap.size e (Rd.n α) v xs.length css.flatten∧Els w css fps xs
 apart:∀b,v.ownBlock=some b→b∉fps.flatten
theorem bE.nil{α:Type}[Rd α](w0 w:World)(e:TypeId):bE (α:=α) w0 e w (.slice none 0 0) [] []:=
 ⟨⟨[],World.ownsRow_nil _ _ _ _,Els.nil w⟩,fun _ _=>by simp⟩
theorem bE.kF{α:Type}[Rd α]{w0 w:World}(e:TypeId)(h:w0.heap.size≤w.heap.size){g:Nat}(hg:g=w.heap.size):bE (α:=α) w0 e (w.alloc (.cells #[] e)) (.slice (some ⟨g,0,none⟩) 0 0) [] []:=by
 subst hg;exact⟨⟨[],World.ownsRow_lit w #[] 0 h (Nat.zero_le _) (by simp),Els.nil _⟩,fun _ _=>by simp⟩
theorem bE.gr{α:Type}[Rd α]{w0 w w':World}{e:TypeId}{v:Value}{fps:List (List Nat)}{xs:List α}(h:bE w0 e w v fps xs)(hg:Gr w w'):bE w0 e w' v fps xs:=by
 obtain⟨⟨q,D,B⟩,I⟩:=h;exact⟨⟨q,El D hg,B.mono (hg.lN B.lt)⟩,I⟩
theorem bE.form{α:Type}[Rd α]{w0 w:World}{e:TypeId}{v:Value}{fps:List (List Nat)}{xs:List α}(h:bE w0 e w v fps xs):∃a c,v=.slice a xs.length c:=by
 obtain⟨⟨D,q,I⟩,J⟩:=h;rcases q.2 with⟨rfl,B⟩|⟨g,cap,cur,rfl,_⟩
 ·exact⟨none,0,by rw[B]⟩
 ·exact⟨_,cap,rfl⟩
theorem bE.base{α:Type}[Rd α]{w0 w:World}{e:TypeId}{v:Value}{fps:List (List Nat)}{xs:List α}(h:bE w0 e w v fps xs):∀b,v.ownBlock=some b→w0.heap.size≤b∧b<w.heap.size:=by
 obtain⟨⟨B,q,D⟩,I⟩:=h;exact q.lt
theorem bE.lt{α:Type}[Rd α]{w0 w:World}{e:TypeId}{v:Value}{fps:List (List Nat)}{xs:List α}(h:bE w0 e w v fps xs):∀b∈fps.flatten,b<w.heap.size:=by
 obtain⟨⟨B,D,q⟩,I⟩:=h;exact q.lt
theorem bE.fl{α:Type}[Rd α]{w0 w:World}{e:TypeId}{v:Value}{fps:List (List Nat)}{xs:List α}(h:bE w0 e w v fps xs):fps.length=xs.length:=by
 obtain⟨⟨B,D,q⟩,I⟩:=h;exact q.fl
theorem bE.wr{α:Type}[Rd α]{w0 w w':World}{e:TypeId}{v:Value}{fps:List (List Nat)}{xs:List α}{fq:List Nat}(h:bE w0 e w v fps xs)(hw:Wr fq w w')(h1:∀b∈fps.flatten,b∉fq)(O:∀b,v.ownBlock=some b→b∉fq):bE w0 e w' v fps xs:=by
 obtain⟨⟨q,B,D⟩,T⟩:=h;refine⟨⟨q,⟨B.1,?_⟩,D.mono (hw.lN D.lt h1)⟩,T⟩;rcases B.2 with U|⟨g,cap,cur,rfl,hb,hg,hr⟩
 ·exact .inl U
 ·have I:g<w.heap.size:=by
   rcases Nat.lt_or_ge g w.heap.size with J|K
   ·exact J
   ·rw[Array.getElem?_eq_none K] at hg;cases hg
  exact .inr ⟨g,cap,cur,rfl,hb,by rw[hw.block g I (O g rfl)];exact hg,hr⟩
theorem bE.slR{α:Type}[Rd α]{w0 w:World}{e:TypeId}{v:Value}{fps:List (List Nat)}{xs:List α}(h:bE w0 e w v fps xs)(hlen:xs.length≤bn):
  ∃fp,SlR fp w v xs∧((xs=[]∧fp=[])∨∃b,v.ownBlock=some b∧fp=b::fps.flatten):=by
 obtain⟨⟨q,K,B⟩,ha⟩:=h
 by_cases J:xs=[]
 ·subst J
  rcases K.2 with⟨rfl,_⟩|⟨g,cap,cur,rfl,_⟩
  ·exact⟨[],SlR.nil w,.inl ⟨rfl,rfl⟩⟩
  ·exact⟨[],⟨_,cap,rfl,by simp,by simp,.inl ⟨rfl,rfl⟩⟩,.inl ⟨rfl,rfl⟩⟩
 ·have hp:0<xs.length:=List.length_pos_iff.2 J
  rcases K.2 with⟨_,hz⟩|⟨g,cap,cur,rfl,hb,hg,O,Z,ae,I⟩
  ·omega
  ·refine⟨g::fps.flatten,⟨_,cap,rfl,O,hlen,.inr ⟨g,0,fps,J,rfl,rfl,B.fl,fun j _=>jB hg _,fun i hi T=>?_⟩⟩,.inr ⟨g,rfl,rfl⟩⟩
   have D:i<q.length:=by rw[B.cl];exact hi
   refine⟨q[i],mF hg fun j u U=>?_,B.rd i hi D T⟩
   have V:j<Rd.n α:=by
    have:=B.n _ (List.getElem_mem D);have:=(List.getElem?_eq_some_iff.1 U).1;omega
   have h1:=flat_get B.n D V
   have Y:i*Rd.n α+j<xs.length*Rd.n α:=by
    have:(i+1)*Rd.n α≤xs.length*Rd.n α:=Nat.mul_le_mul_right _ hi;rw[Nat.add_mul] at this;omega
   have X:(cur.toList.take (xs.length*Rd.n α))[i*Rd.n α+j]?=q.flatten[i*Rd.n α+j]?:=by rw[I]
   rw[List.getElem?_take_of_lt Y,h1,U] at X;rw[Nat.zero_add];simpa using X
theorem bE.fresh{α:Type}[Rd α]{w0 w:World}{e:TypeId}{v:Value}{fps:List (List Nat)}{xs:List α}(h:bE w0 e w v fps xs)(hlen:xs.length≤bn)(q:aY w0 fps.flatten):
  ∃fp,SlR fp w v xs∧aY w0 fp:=by
 obtain⟨fp,hs,⟨rfl,rfl⟩|⟨b,hb,rfl⟩⟩:=h.slR hlen
 ·exact⟨[],hs,aY.nil _⟩
 ·exact⟨_,hs,List.nodup_cons.2 ⟨h.apart b hb,q.1⟩,fun c hc=>by
   rcases List.mem_cons.1 hc with rfl|hc
   ·exact(h.base _ hb).1
   ·exact q.2 c hc⟩
def eT{α:Type}[Rd α](w:World)(x:Value)(h:List (List Nat))(B:List α):Prop:=
 (B=[]∧h=[]∧∃a c,x=.slice a 0 c)∨
 ∃b off c q,x=.slice (some ⟨b,off,none⟩) B.length c∧Els w q h B∧∀j u,q.flatten[j]?=some u→w.cell? ⟨b,off+j,none⟩=some u
theorem eT.one{α:Type}[Rd α]{w:World}{fq:List Nat}{cs:Array Value}{e:TypeId}{y:α}{g:Nat}(hg:g=w.heap.size)(h:Rd.rd fq (w.alloc (.cells cs e)) cs.toList y):
  eT (w.alloc (.cells cs e)) (.slice (some ⟨g,0,none⟩) 1 1) [fq] [y]:=by
 subst hg;refine .inr ⟨w.heap.size,0,1,[cs.toList],rfl,Els.one h,fun j u q=>?_⟩;rw[Nat.zero_add,World.cell?_alloc_new];simpa using q
theorem eT.qL{α:Type}[Rd α]{w:World}{fp:List Nat}{v:Value}{q:List α}(h:SlR fp w v q):∃B,eT w v B q∧(∀c∈B.flatten,c∈fp)∧(fp.Nodup→B.flatten.Nodup):=by
 obtain⟨a,cap,rfl,h1,I,⟨rfl,rfl⟩|⟨b,off,fps,Z,rfl,rfl,U,ae,V⟩⟩:=h
 ·exact⟨[],.inl ⟨rfl,rfl,_,cap,rfl⟩,by simp,by simp⟩
 ·have each:∀i,∃cs:List Value,∀(h:i<q.length) (h':i<fps.length),jP w b (off+i*Rd.n α) cs∧Rd.rd fps[i] w cs q[i]:=by
   intro i
   by_cases hi:i<q.length
   ·obtain⟨cs,hc,hr⟩:=V i hi (by omega)
    exact⟨cs,fun _ _=>⟨hc,hr⟩⟩
   ·exact⟨[],fun h=>absurd h hi⟩
  obtain⟨f,J⟩:=Classical.axiomOfChoice each;have D:Els w ((List.range q.length).map f) fps q:=⟨by simp,U,fun i X h1 I=>by simpa using(J i X I).2⟩;refine⟨fps,.inr ⟨b,off,cap,_,rfl,D,fun j u K=>?_⟩,fun c hc=>List.mem_cons_of_mem _ hc,fun hn=>(List.nodup_cons.1 hn).2⟩
  have O:j<q.length*Rd.n α:=by
   have:=(List.getElem?_eq_some_iff.1 K).1;rw[nY D.n] at this;simpa using this
  have Y:=Rd.pos (α:=α);have hi:j / Rd.n α<q.length:=Nat.div_lt_of_lt_mul (by rw[Nat.mul_comm];exact O);have hm:=Nat.mod_lt j Y;have T:j / Rd.n α*Rd.n α+j % Rd.n α=j:=by rw[Nat.mul_comm];exact Nat.div_add_mod j _
  have h1:=flat_get D.n (i:=j / Rd.n α) (j:=j % Rd.n α) (by simpa using hi) hm;rw[T,K] at h1;have:=(J (j / Rd.n α) hi (by omega)).1 (j % Rd.n α) u (by simpa using h1.symm)
  rwa [Nat.add_assoc,T] at this
section
variable{P:Program}
theorem yz{w:World}(base:Nat)(t ty e:TypeId)(i:TypeInfo)(z:Value)(size bytes:Nat)(ht:P.underlying t=some (.slice e))(hi:P.info? e=some i)(hz:i.zero=some z)
  (hsize:i.size=size) (J:i.bytes=bytes) (T:z.cells.size=size) (U:0<size)
  (v:Value) (n:Nat) (xs:List Value) (hown:w.ownsRow base e size v n xs)
  (a:Addr) (m c:Nat) (news:List Value) (B:news.length=m*size) (hnews:∀j u,news[j]?=some u→w.cell? (a.add j)=some u) (h1:∀u∈news,u.oneCell'=true) (hm:0<m)
  (K:n+m≤maxLen) (hbytes:(n+m)*bytes≤140737488355328) (hbase:base≤w.heap.size):
  ∃I w',(Builtin.append_ #[t,t] ty #[v,.slice (some a) m c]).run P w=.ok I w'∧w'.ownsRow base e size I (n+m) (xs++news)∧w.grownBy w' v.ownBlock∧w.drawn≤w'.drawn:=by
 obtain⟨I,w',hr,Z,h3,-⟩:=run_append_own (P:=P) w base t ty e i z size bytes ht hi hz hsize J T U v n xs hown a m c news B hnews h1 K hbytes hbase;refine⟨I,w',hr,Z,h3,?_⟩;subst hsize;subst J;have V:n+m≤9223372036854775807:=by simp only[maxLen] at K;omega
 rcases hown.2 with⟨rfl,rfl⟩|⟨g,cap,cur,rfl,ae,hg,ah,ai,X,Y⟩
 ·have h:=run_append_nil (P:=P) w t ty e i z ht hi hz a m c news B hnews hm (by omega) (by have hb:=hbytes;simp only[Nat.zero_add] at hb;omega)
  have:=hr.symm.trans h;injection this with _ D;rw[D]
  show w.drawn≤w.drawn+1
  omega
 ·by_cases q:n+m≤cap
  ·have O:n*i.size+news.length≤cur.size:=by rw[B,X,←Nat.add_mul];exact Nat.mul_le_mul_right _ q
   have h:=run_append_room (P:=P) w t ty e i ht hi g n cap cur hg a m c news B hnews h1 q O;have:=hr.symm.trans h;injection this with _ D;rw[D];exact Nat.le_refl _
  ·have holds:∀j u,xs[j]?=some u→w.cell? ((⟨g,0,none⟩:Addr).add j)=some u:=hown.cells (g:=g) rfl
   have h:=run_append_grow (P:=P) w t ty e i z ht hi hz ⟨g,0,none⟩ n cap xs hown.1 holds a m c news B hnews (by omega) (by omega) (growslice_fits (by omega) hbytes);have:=hr.symm.trans h;injection this with _ D;rw[D]
   show w.drawn≤w.drawn+1
   omega
theorem mO{α:Type}[Rd α]{wg w0 w:World}(hG:Gr wg w)(ax:wg.heap.size≤w0.heap.size)(Y:w0.heap.size≤w.heap.size)(t ty e:TypeId)(i:TypeInfo)(z:Value)(bytes:Nat)(ht:P.underlying t=some (.slice e))(hi:P.info? e=some i)(hz:i.zero=some z)
  (hsize:i.size=Rd.n α) (Z:i.bytes=bytes) (ae:z.cells.size=Rd.n α) {v:Value} {fps:List (List Nat)} {xs:List α} (hown:bE w0 e w v fps xs)
  {x:Value} {I:List (List Nat)} {q:List α} (hsrc:eT w x I q) (ah:∀b,v.ownBlock=some b→b∉I.flatten) (ai:xs.length+q.length≤maxLen) (hbytes:(xs.length+q.length)*bytes≤140737488355328):
  ∃O w',(Builtin.append_ #[t,t] ty #[v,x]).run P w=.ok O w'∧bE w0 e w' O (fps++I) (xs++q)∧w.grownBy w' v.ownBlock∧(O.ownBlock=v.ownBlock∨O.ownBlock=some w.heap.size)∧Gr wg w'∧w.drawn≤w'.drawn:=by
 have hbase:=hown.base;have aj:=hown.lt;have B:=hown.apart;obtain⟨a1,V,J⟩:=hown.form;obtain⟨⟨ak,T,hE⟩,ha⟩:=hown;rcases hsrc with⟨rfl,rfl,a,c,rfl⟩|⟨b,off,c,U,rfl,D,hnews⟩
 ·have hs:Src P i.size t (.slice a 0 c) 0 [] w:=by
   cases a with
   |none=>exact Src.ofNil w ht c
   |some a=>exact Src.ofSlice w ht a 0 c [] (by simp) (by simp) (by simp)
  have hle:xs.length≤V:=by
   rcases T.2 with⟨rfl,h0⟩|⟨g,cap,cur,rfl,_,_,ay,_⟩
   ·omega
   ·injection J with _ _ e3;omega
  have hr:=run_append_nothing (P:=P) w t t ty e i ht hi a1 xs.length V hle _ hs;rw[←J] at hr;exact⟨v,w,hr,⟨⟨ak,by simpa using T,by simpa using hE⟩,by simpa using ha⟩,⟨rfl,rfl,rfl,Nat.le_refl _,fun _ _ _=>rfl⟩,.inl rfl,hG,Nat.le_refl _⟩
 ·have hp:=Rd.pos (α:=α)
  have hl:U.flatten.length=q.length*Rd.n α:=by rw[nY D.n,D.cl]
  have au:∀j u,U.flatten[j]?=some u→w.cell? ((⟨b,off,none⟩:Addr).add j)=some u:=by
   intro j u hj
   have e:(⟨b,off,none⟩:Addr).add j=⟨b,off+j,none⟩:=by
    unfold Addr.add
    split
    ·rename_i e;subst e;rfl
    ·rfl
   rw[e];exact hnews j u hj
  obtain⟨O,w',hr,h2,X,-,h5⟩:=run_append_own_at (P:=P) w w0.heap.size t ty e i z (Rd.n α) bytes ht hi hz hsize Z ae hp v xs.length _ T ⟨b,off,none⟩ q.length c _ hl au D.oneCell ai hbytes Y
  have hd:w.drawn≤w'.drawn:=by
   by_cases h0:q.length=0
   ·have hs:Src P i.size t (.slice (some ⟨b,off,none⟩) q.length c) 0 [] w:=by
     rw[h0];exact Src.ofSlice w ht _ 0 c [] (by simp) (by simp) (by simp)
    have hle:xs.length≤V:=by
     rcases T.2 with⟨rfl,h0⟩|⟨g,cap,cur,rfl,_,_,ay,_⟩
     ·omega
     ·injection J with _ _ e3;omega
    have K:=run_append_nothing (P:=P) w t t ty e i ht hi a1 xs.length V hle _ hs;rw[←J] at K;have:=hr.symm.trans K;injection this with _ e2;rw[e2];exact Nat.le_refl _
   ·obtain⟨v2,w2,K,-,-,h4⟩:=yz (P:=P) (w:=w) w0.heap.size t ty e i z (Rd.n α) bytes ht hi hz hsize Z ae hp v xs.length _ T ⟨b,off,none⟩ q.length c _ hl au D.oneCell (by omega) ai hbytes Y
    have:=hr.symm.trans K;injection this with _ e2;rw[e2];exact h4
  have aZ:fB fps.flatten w w':=fun c hc=>X.block c (aj c hc) fun e=>B c e.symm hc
  have bg:fB I.flatten w w':=fun c hc=>X.block c (D.lt c hc) fun e=>ah c e.symm hc
  refine⟨O,w',hr,⟨⟨ak++U,by simpa using h2,(hE.mono aZ).app (D.mono bg)⟩,fun b' h hm=>?_⟩,X,h5,hG.grown X (fun b hb=>Nat.le_trans ax (hbase b hb).1) hd,hd⟩;rw[List.flatten_append,List.mem_append] at hm;rcases h5 with e5|e5
  ·rw[e5] at h
   rcases hm with hm|hm
   ·exact B b' h hm
   ·exact ah b' h hm
  ·rw[e5] at h
   injection h with h;subst h;rcases hm with hm|hm
   ·exact Nat.lt_irrefl _ (aj _ hm)
   ·exact Nat.lt_irrefl _ (D.lt _ hm)
theorem Be{α:Type}[Rd α]{w0 w:World}(D:Gr w0 w)(t ty e:TypeId)(i:TypeInfo)(z:Value)(bytes:Nat)(ht:P.underlying t=some (.slice e))(hi:P.info? e=some i)(hz:i.zero=some z)
  (hsize:i.size=Rd.n α) (I:i.bytes=bytes) (J:z.cells.size=Rd.n α) {v:Value} {fps:List (List Nat)} {xs:List α} (hown:bE w0 e w v fps xs)
  {x:Value} {q:List (List Nat)} {B:List α} (hsrc:eT w x q B) (K:∀b,v.ownBlock=some b→b∉q.flatten) (O:xs.length+B.length≤maxLen) (hbytes:(xs.length+B.length)*bytes≤140737488355328):
  ∃h w',(Builtin.append_ #[t,t] ty #[v,x]).run P w=.ok h w'∧bE w0 e w' h (fps++q) (xs++B)∧w.grownBy w' v.ownBlock∧(h.ownBlock=v.ownBlock∨h.ownBlock=some w.heap.size)∧Gr w0 w':=by
 obtain⟨h,w',h1,T,U,V,X,-⟩:=mO (P:=P) D (Nat.le_refl _) D.size t ty e i z bytes ht hi hz hsize I J hown hsrc K O hbytes;exact⟨h,w',h1,T,U,V,X⟩
theorem Wr.CB{w w':World}{row:Option Nat}(h:w.grownBy w' row)(q:w.drawn≤w'.drawn):Wr row.toList w w':=
 ⟨h.os,h.tape,h.output,h.size,q,fun b hb hn=>h.block b hb fun e=>hn (by rw[←e];simp)⟩
theorem bP{α:Type}[Rd α]{w0 w:World}(X:Gr w0 w){ops:Array Oper}{rest:List Oper}{o:Oper}{a:Act}{Q:Exit→Act→World→Prop}(I:o.guard=none)(s x:Operand)(t:TypeId)
  (Y:o.op=.call {callee:=.builtin .append,args:=#[s,x],argTypes:=#[t,t]})
  (e:TypeId) (i:TypeInfo) (z:Value) (bytes:Nat) (ht:P.underlying t=some (.slice e)) (hi:P.info? e=some i) (hz:i.zero=some z)
  (hsize:i.size=Rd.n α) (J:i.bytes=bytes) (O:z.cells.size=Rd.n α)
  (v:Value) (fps:List (List Nat)) (xs:List α) (hs:a.eval s=v) (hown:bE w0 e w v fps xs)
  (T:Value) (B:List (List Nat)) (D:List α) (Z:a.eval x=T) (hsrc:eT w T B D) (U:∀b,v.ownBlock=some b→b∉B.flatten)
  (V:xs.length+D.length≤maxLen) (hbytes:(xs.length+D.length)*bytes≤140737488355328)
  (h:∀q w',bE w0 e w' q (fps++B) (xs++D)→w.grownBy w' v.ownBlock→(q.ownBlock=v.ownBlock∨q.ownBlock=some w.heap.size)→Gr w0 w'→wpList P ops Q rest (a.put o.dst q) w'):wpList P ops Q (o::rest) a w:=by
 refine wpList_plain I fun K hK=>?_
 obtain⟨q,w',hr,h2,h3,h4,h5⟩:=Be (P:=P) X t o.type e i z bytes ht hi hz hsize J O hown hsrc U V hbytes;unfold Oper.wp execOp;simp only[Y,resolve,invoke,builtin,Sem.run_bind,Sem.run_pure,Result.andThen_ok,List.map_toArray,List.map_cons,List.map_nil,hs,Z,hr];exact hK _ _ (h q w' h2 h3 h4 h5)
theorem eU{α:Type}[Rd α]{wg w0 w:World}(Z:Gr wg w)(I:wg.heap.size≤w0.heap.size)(J:w0.heap.size≤w.heap.size){ops:Array Oper}{rest:List Oper}{o:Oper}{a:Act}{Q:Exit→Act→World→Prop}(O:o.guard=none)(s x:Operand)(t:TypeId)
  (ho:o.op=.call {callee:=.builtin .append,args:=#[s,x],argTypes:=#[t,t]})
  (e:TypeId) (i:TypeInfo) (z:Value) (bytes:Nat) (ht:P.underlying t=some (.slice e)) (hi:P.info? e=some i) (hz:i.zero=some z)
  (hsize:i.size=Rd.n α) (T:i.bytes=bytes) (U:z.cells.size=Rd.n α)
  (v:Value) (fps:List (List Nat)) (xs:List α) (hs:a.eval s=v) (hown:bE w0 e w v fps xs)
  (V:Value) (B:List (List Nat)) (D:List α) (hx:a.eval x=V) (hsrc:eT w V B D) (X:∀b,v.ownBlock=some b→b∉B.flatten)
  (Y:xs.length+D.length≤maxLen) (hbytes:(xs.length+D.length)*bytes≤140737488355328)
  (h:∀q w',bE w0 e w' q (fps++B) (xs++D)→Wr v.ownBlock.toList w w'→(q.ownBlock=v.ownBlock∨q.ownBlock=some w.heap.size)→Gr wg w'→wpList P ops Q rest (a.put o.dst q) w'):wpList P ops Q (o::rest) a w:=by
 refine wpList_plain O fun K hK=>?_
 obtain⟨q,w',hr,h2,h3,h4,h5,h6⟩:=mO (P:=P) Z I J t o.type e i z bytes ht hi hz hsize T U hown hsrc X Y hbytes;unfold Oper.wp execOp;simp only[ho,resolve,invoke,builtin,Sem.run_bind,Sem.run_pure,Result.andThen_ok,List.map_toArray,List.map_cons,List.map_nil,hs,hx,hr];exact hK _ _ (h q w' h2 (Wr.CB h3 h6) h4 h5)
end
end Go.Proofs.YtleafadpfeibfaaGreat
namespace Go.Proofs.YtleafadpfeibfaaGreat
open Go.RowKit
section
variable{P:Program}
end
theorem Gv{α:Type}[Rd α](D:Rd.n α=1)(enc:α→Value){w:World}{base n:Nat}{v:Value}{xs:List α}{e:TypeId}(h:w.ownsRow base e 1 v n (xs.map enc))
  (hw:∀y∈xs,Rd.rd [] w [enc y] y) (hlen:xs.length≤bn):∃fq,SlR fq w v xs∧(∀b∈fq,base≤b∧b<w.heap.size)∧fq.Nodup∧n=xs.length:=by
 have hn:n=xs.length:=by have:=h.1;simpa using this.symm
 subst hn;rcases h.2 with⟨rfl,V⟩|⟨g,cap,cur,rfl,I,hg,J,Y,Z,q⟩
 ·have:xs=[]:=List.eq_nil_of_length_eq_zero V
  subst this;exact⟨[],SlR.nil w,by simp,by simp,rfl⟩
 ·have K:g<w.heap.size:=by
   rcases Nat.lt_or_ge g w.heap.size with O|T
   ·exact O
   ·rw[Array.getElem?_eq_none T] at hg;cases hg
  have X:∀i (h:i<xs.length),∃c,cur[i]?=some c∧Rd.rd [] w [c] xs[i]:=fun i hi=>by
   refine⟨enc xs[i],?_,hw _ (List.getElem_mem hi)⟩;have U:(cur.toList.take (xs.length*1))[i]?=(xs.map enc)[i]?:=by rw[q]
   rw[List.getElem?_take_of_lt (by omega),List.getElem?_map,List.getElem?_eq_getElem hi] at U;simpa using U
  obtain⟨fp,hs,B⟩:=SlR.flat (xs:=xs) (cap:=cap) hg D X J hlen;refine⟨fp,hs,?_,?_,rfl⟩
  ·rcases B with rfl|rfl
   ·simp
   ·intro b hb
    obtain rfl:b=g:=by simpa using hb
    exact⟨I,K⟩
  ·rcases B with rfl|rfl<;>simp
end Go.Proofs.YtleafadpfeibfaaGreat
