/- Contracts and laws towards ReadsOf, part 3 of 54. No condition. -/
import Derived.Test.YtdhighcpmcdmmaaGreatFx01
import Derived.Maps.AppendAt
import Derived.Deep.Upon
import Derived.Deep.RegionHeld3
set_option maxHeartbeats 32000000
set_option maxRecDepth 10000
set_option linter.unusedVariables false
set_option linter.unusedSimpArgs false
namespace Go.Proofs.YtdhighcpmcdmmaaGreat
open Go.RowKit
theorem Tryz.O9:(Tryz.prog.info? 29).map (fun i=>(i.zero,i.size,i.bytes))=some (some (.slice none 0 0),1,24):=by kernel_rfl
theorem ET{a b:Bool}(h:(a !=b)=true):a≠b:=by simpa using h
theorem Fa{a b:Bool}(h:(a !=b)=false):a=b:=by simpa using h
theorem Tryz.Hm:(Tryz.prog.info? 9).map (fun i=>(i.zero,i.size,i.bytes))=some (some (.string ByteArray.empty),1,16):=by kernel_rfl
def cu(xs:List ByteArray):Nat:=wtL ByteArray.size xs
theorem yj(fp fq:List Nat)(u v:Value)(xs q:List ByteArray)(w:World)(hu:SlR fp w u xs)(T:SlR fq w v q):
  Qz 152 #[u,v] w (.bool (decide (xs=q))):=by
 obtain⟨a,ca,rfl,h1,h2,U⟩:=hu.open;obtain⟨c,cc,rfl,g1,g2,X⟩:=T.open
 by_cases B:xs.length=q.length
 ·have J:=Kz B
  have Y:((xs.length:Int)!=(q.length:Int))=false:=by simp[B]
  clear B;delta Qz;go_in
  go_wp2
  go_loopw [5] (fun K wr=>∃k:Nat,k≤xs.length∧xs.take k=q.take k∧Gr w wr∧K=.int .i64 k) (fun K _=>xs.length - (intOf K).toNat)
  case atStart=>exact⟨0,by omega,rfl,Gr.refl w,rfl⟩
  case round=>
   obtain⟨k,hk,I,⟨x,rfl⟩,rfl⟩:=hrel
   by_cases D:k<xs.length
   ·have s:k<q.length:=by have:=J.o;omega
    obtain⟨b,off,rfl,hb⟩:=U k D;obtain⟨b',ae,rfl,ah⟩:=X k s;have x1:=(hu.jl D).1;have x2:=(T.jl s).1;have hT:=Kz I;clear U X I;go_wp2_with fail;refine wg ?_
    repeat(go_big_quiet_step (fail))
    refine wq fun nx=>?_
    go_wp2
    ·rename_i O
     go_ret;have H:xs[k]≠q[k]:=lg (by simpa using O);have E:xs≠q:=fun e=>H (by subst e;rfl)
     exact⟨aa (decide_eq_false E).symm,((Gr.refl w).ext _).ext _⟩
    ·rename_i O
     have H:xs[k]=q[k]:=str_inj (by simpa using O);refine⟨⟨k+1,by omega,?_,((Gr.refl w).ext _).ext _,by go_num⟩,by simp[intOf];omega⟩;rw[List.take_succ_eq_append_getElem D,List.take_succ_eq_append_getElem s,hT.o,H]
   ·have Z:k=xs.length:=by omega
    subst Z
    have e:xs=q:=by
     have h:=I;have h':=J.o;rw[List.take_length,h',List.take_length] at h;exact h
    have E:=Kz e;clear e I
    go_wp2
    go_ret;exact⟨aa (decide_eq_true E.o).symm,(Gr.refl w).ext _⟩
 ·have Y:((xs.length:Int)!=(q.length:Int))=true:=by simp;omega
  have e:xs≠q:=fun e=>B (by rw[e])
  have E:=Kz e;clear e B;delta Qz;go_in
  go_wp2
  go_ret;exact⟨aa (decide_eq_false E.o).symm,Gr.refl w⟩
theorem yF(fp:List Nat)(u:Value)(xs:List ByteArray)(w:World)(hu:SlR fp w u xs)(hlen:xs.length≤1048576):
  Calls Tryz.prog 131 #[u] w fun e w'=>∃v fq,e=.returned v∧SlR fq w' v xs∧aY w fq∧Gr w w':=by
 obtain⟨a,ca,rfl,h1,h2,K⟩:=hu.open;obtain⟨i0,U,E,H,I⟩:=info_parts Tryz.Hm;have s:=fun(W:World)=>run_make (P:=Tryz.prog) W 94 9 i0 (.string ByteArray.empty) Tryz.underlying94 U E .i64 .i64 xs.length xs.length (by omega) (by omega) (by rw[I];omega) (by omega)
 rw[H] at s;clear U E H I;simp only[Int.toNat_natCast,Nat.mul_one] at s;have B:=size_madeCells (Value.string ByteArray.empty).cells xs.length;generalize madeCells (Value.string ByteArray.empty).cells xs.length=C0 at s B;have HS:=Kz B;clear B;go_in
 go_wp2
 go_loopw [4] (fun O wr=>∃(k:Nat) (C:Array Value),k≤xs.length∧C.size=xs.length∧(∀j (h:j<xs.length),j<k→C[j]?=some (.string xs[j]))∧wr=w.alloc (.cells C 9)∧O=.int .i64 k) (fun O _=>xs.length - (intOf O).toNat)
 case atStart=>exact⟨0,C0,by omega,HS.o,by omega,rfl,rfl⟩
 case round=>
  obtain⟨k,C,hk,T,D,rfl,rfl⟩:=hrel;have hT:=Kz D;have X:=Kz T
  by_cases J:k<xs.length
  ·obtain⟨b,off,rfl,hb⟩:=K k J
   have x1:=(hu.jl J).1;have y1:k<C.size:=by omega
   clear D T K
   go_wp2
   refine⟨⟨k+1,_,by omega,by simp[X.o],fun j q ae=>?_,rfl,by go_num⟩,by simp[intOf];omega⟩;rw[Array.getElem?_setIfInBounds]
   split
   ·rename_i e;subst e;rfl
   ·exact hT.o j q (by omega)
  ·have Y:k=xs.length:=by omega
   subst Y
   have hW:∀j (q:j<xs.length),xs[j].size≤maxLen:=fun j q=>by
    obtain⟨b,off,rfl,hb⟩:=K j q;exact(hu.jl q).2
   obtain⟨fq,Z,hf⟩:=SlR.flat (w:=w.alloc (.cells C 9)) (b:=w.heap.size) (C:=C) (t:=9) (cap:=xs.length) (xs:=xs) (heap_alloc_new w _) rfl
    (fun j q=>⟨_,D j q q,rfl,rfl,hW j q⟩) (Nat.le_refl _) (by unfold bn;omega)
   have HF:=Kz Z;clear Z D T
   go_wp2
   go_ret;exact⟨_,fq,rfl,HF.o,aY.of_flat hf (Nat.le_refl _),(Gr.refl w).alloc _⟩
theorem yE(fp:List Nat)(u:Value)(xs:List ByteArray)(left:Int)(w:World)(hu:SlR fp w u xs)(h0:0≤left)(h1:left≤1048576):
  Qz 116 #[u,.int .i64 left] w (.int .i64 (less left (cu xs))):=by
 obtain⟨a,ca,rfl,g1,g2,O⟩:=hu.open
 by_cases I:left - xs.length<0
 ·have hle:less left (cu xs)= -1:=by unfold less cu wtL;rw[if_pos (by omega)]
  have HL:=Kz hle;clear hle;delta Qz;go_in
  go_wp2
  go_ret;exact⟨aC HL.o.symm,Gr.refl w⟩
 ·have D:less left xs.length=left - xs.length:=by unfold less;rw[if_neg I]
  have T:=Kz D;clear D;delta Qz;go_in
  go_wp2
  go_loopw [5,1] (fun J s1 wr=>∃(k:Nat) (m:Int),k≤xs.length∧0≤m∧m≤1048576∧Ky (m=less left (xs.length+((xs.take k).map ByteArray.size).sum))∧Gr w wr∧J=.int .i64 k∧s1=.int .i64 m) (fun J _ _=>xs.length - (intOf J).toNat)
  case atStart=>exact⟨0,_,by omega,by omega,by omega,Kz (by simp[T.o]),Gr.refl w,rfl,rfl⟩
  case round=>
   obtain⟨k,m,hk,U,ae,hm,⟨x,rfl⟩,rfl,rfl⟩:=hrel
   by_cases q:k<xs.length
   ·obtain⟨b,off,rfl,hb⟩:=O k q
    have h:=Kz (eZ ByteArray.size xs k q);obtain⟨z0,E⟩:=hu.jl q;obtain⟨s,X⟩:=nm (xs[k]);rw[←X] at z0 E h;unfold maxLen at E;clear O X
    by_cases K:m - s.size<0
    ·go_wp2_with fail
     go_ret;refine⟨aC ?_,gd⟩;have e:=hm.o;subst e;have H:less (less left (xs.length+((xs.take k).map ByteArray.size).sum)) s.size<0:=by unfold less;unfold less at K U;split at K<;>split<;>omega
     rw[fE,Nat.add_assoc,←h.o] at H;exact(jV H (Nat.add_le_add_left (gJ ByteArray.size xs (k+1)) _) h0).symm
    ·have Y:0≤m - s.size:=by omega
     go_wp2_with fail;refine⟨⟨k+1,m - s.size,by omega,Y,by omega,Kz ?_,gd,by go_num,rfl⟩,by simp[intOf];omega⟩;rw[h.o,←Nat.add_assoc,←fE,←hm.o];unfold less;rw[if_neg K]
   ·have Z:k=xs.length:=by omega
    subst Z;have B:=hm.o;rw[List.take_length] at B;have HM:=Kz B;clear B hm
    go_wp2
    go_ret;exact⟨aC HM.o,gd⟩
structure Wr(fp:List Nat)(w w':World):Prop where
 os:w'.os=w.os
 tape:w'.tape=w.tape
 output:w'.output=w.output
 size:w.heap.size≤w'.heap.size
 drawn:w.drawn≤w'.drawn
 block:∀b,b<w.heap.size→b∉fp→w'.heap[b]?=w.heap[b]?
theorem Wr.refl(fp:List Nat)(w:World):Wr fp w w:=⟨rfl,rfl,rfl,Nat.le_refl _,Nat.le_refl _,fun _ _ _=>rfl⟩
theorem Wr.trans{fp:List Nat}{a b c:World}(h:Wr fp a b)(k:Wr fp b c):Wr fp a c:=
 ⟨k.os.trans h.os,k.tape.trans h.tape,k.output.trans h.output,Nat.le_trans h.size k.size,Nat.le_trans h.drawn k.drawn,
  fun x q s=>(k.block x (Nat.lt_of_lt_of_le q h.size) s).trans (h.block x q s)⟩
theorem Wr.sub{fp fq:List Nat}{a b:World}(h:Wr fp a b)(q:∀c∈fp,c∈fq):Wr fq a b:=
 ⟨h.os,h.tape,h.output,h.size,h.drawn,fun x s B=>h.block x s fun e=>B (q x e)⟩
theorem Gr.eF{w w':World}(h:Gr w w')(fp:List Nat):Wr fp w w':=by
 obtain⟨x,rfl⟩:=h;exact⟨rfl,rfl,rfl,by simp,by simp,fun b q _=>mW w x q⟩
theorem Wr.gr{fp:List Nat}{a b c:World}(h:Wr fp a b)(k:Gr b c):Wr fp a c:=h.trans (k.eF fp)
theorem heap_setCell{w:World}{b o c:Nat}{v:Value}(h:c≠b):(w.setCell ⟨b,o,none⟩ v).heap[c]?=w.heap[c]?:=by
 unfold World.setCell;simp only[Array.getElem?_modify];rw[if_neg (fun e=>h e.symm)]
theorem yP{w:World}{a:Addr}{v:Value}:(w.setCell a v).heap.size=w.heap.size:=by
 unfold World.setCell;simp
theorem Wr.setCell{fp:List Nat}{a c:World}(h:Wr fp a c){b o:Nat}(s:b∈fp)(v:Value):Wr fp a (c.setCell ⟨b,o,none⟩ v):=
 ⟨h.os,h.tape,h.output,by rw[yP];exact h.size,h.drawn,fun x B q=>by rw[heap_setCell (fun e=>q (by rw[e];exact s))];exact h.block x B q⟩
theorem Gr.wr{w0 w w':World}{fp:List Nat}(h:Gr w0 w)(k:Wr fp w w')(s:∀b∈fp,w0.heap.size≤b):Gr w0 w':=
 Gr.of_below ⟨k.os.trans h.below.os,k.tape.trans h.below.tape,k.output.trans h.below.output,Nat.le_trans h.below.size k.size,
  fun b q=>(k.block b (Nat.lt_of_lt_of_le q h.below.size) (fun e=>by have:=s b e;omega)).trans (h.below.block b q)⟩ (Nat.le_trans h.drawn k.drawn)
theorem Wr.lN{fp fq:List Nat}{w w':World}(h:Wr fp w w')(q:∀b∈fq,b<w.heap.size)(B:∀b∈fq,b∉fp):fB fq w w':=
 fun b s=>h.block b (q b s) (B b s)
theorem SlR.wr{α:Type}[Rd α]{fp fq:List Nat}{w w':World}{v:Value}{xs:List α}(h:SlR fq w v xs)(k:Wr fp w w')(q:∀b∈fq,b∉fp):SlR fq w' v xs:=
 h.mono (k.lN h.lt q)
theorem Rd.wr{α:Type}[Rd α]{fp fq:List Nat}{w w':World}{cs:List Value}{x:α}(h:Rd.rd fq w cs x)(k:Wr fp w w')(q:∀b∈fq,b∉fp):Rd.rd fq w' cs x:=
 Rd.mono (k.lN (Rd.lt h) q) h
structure Foc(b lo n:Nat)(fq:List Nat)(w w':World):Prop where
 wr:Wr (b::fq) w w'
 cell:∀o,o<lo∨lo+n≤o→w'.cell? ⟨b,o,none⟩=w.cell? ⟨b,o,none⟩
 frozen:∀o,w'.frozen? ⟨b,o,none⟩=w.frozen? ⟨b,o,none⟩
theorem jR{w:World}{b o o':Nat}{v:Value}(h:o'≠o):(w.setCell ⟨b,o,none⟩ v).cell? ⟨b,o',none⟩=w.cell? ⟨b,o',none⟩:=by
 unfold World.cell? World.setCell;simp only[Array.getElem?_modify,if_pos]
 cases q:w.heap[b]? with
 |none=>rfl
 |some x=>
  cases x<;>simp[Ne.symm h]
theorem cne(b o o':Nat)(h:o'≠o:=by omega)(w:World)(v:Value):(w.setCell ⟨b,o,none⟩ v).cell? ⟨b,o',none⟩=w.cell? ⟨b,o',none⟩:=jR h
theorem iY{w:World}{b o:Nat}{u v:Value}(h:w.cell? ⟨b,o,none⟩=some u):(w.setCell ⟨b,o,none⟩ v).cell? ⟨b,o,none⟩=some v:=by
 unfold World.cell? at h
 split at h
 ·rename_i c t fr q
  have hc:c[o]?=some u:=by simpa using h
  have s:o<c.size:=(Array.getElem?_eq_some_iff.1 hc).1;unfold World.cell? World.setCell;simp only[Array.getElem?_modify,if_pos];simp only[] at q;rw[q];simp[s]
 ·cases h
theorem O5{w:World}{b c o o':Nat}{v:Value}(h:c≠b):(w.setCell ⟨b,o,none⟩ v).cell? ⟨c,o',none⟩=w.cell? ⟨c,o',none⟩:=
 World.cell?_of_block (heap_setCell h)
theorem eQ{w:World}{b c o o':Nat}{v:Value}:(w.setCell ⟨b,o,none⟩ v).frozen? ⟨c,o',none⟩=w.frozen? ⟨c,o',none⟩:=by
 unfold World.frozen? World.setCell;simp only[Array.getElem?_modify]
 by_cases e:b=c
 ·subst e
  simp only[if_pos]
  cases h:w.heap[b]? with
  |none=>rfl
  |some x=>cases x<;>rfl
 ·rw[if_neg e]
theorem Foc.refl(b h n:Nat)(fq:List Nat)(w:World):Foc b h n fq w w:=⟨Wr.refl _ _,fun _ _=>rfl,fun _=>rfl⟩
theorem Foc.set{b q n:Nat}{fq:List Nat}{w w':World}(h:Foc b q n fq w w'){o:Nat}(B:q≤o)(D:o<q+n)(v:Value):Foc b q n fq w (w'.setCell ⟨b,o,none⟩ v):=
 ⟨h.wr.setCell (by simp) v,fun o' s=>by rw[jR (by omega)];exact h.cell o' s,fun o'=>by rw[eQ];exact h.frozen o'⟩
theorem Foc.inner{b B n:Nat}{fq s:List Nat}{w w' q:World}(h:Foc b B n fq w w')(D:b<w.heap.size)(k:Wr s w' q)(E:∀c∈s,c∈fq)(H:b∉s):Foc b B n fq w q:=by
 have e:q.heap[b]?=w'.heap[b]?:=k.block b (Nat.lt_of_lt_of_le D h.wr.size) H
 exact⟨h.wr.trans (k.sub fun c hc=>List.mem_cons_of_mem _ (E c hc)),fun o I=>(World.cell?_of_block (a:=⟨b,o,none⟩) e).trans (h.cell o I),
  fun o=>(World.frozen?_of_block (a:=⟨b,o,none⟩) e).trans (h.frozen o)⟩
theorem Foc.gr{b s n:Nat}{fq:List Nat}{w w' q:World}(h:Foc b s n fq w w')(B:b<w.heap.size)(k:Gr w' q):Foc b s n fq w q:=
 h.inner B (k.eF []) (by simp) (by simp)
theorem pF{a b:List Nat}(h:(a++b).Nodup):a.Nodup∧b.Nodup∧∀c∈a,c∉b:=by
 obtain⟨q,s,B⟩:=List.nodup_append.1 h;exact⟨q,s,fun c hc D=>B c hc c D rfl⟩
theorem SlR.focus{α:Type}[Rd α]{fp:List Nat}{w:World}{b off len cap:Nat}{xs:List α}(h:SlR fp w (.slice (some ⟨b,off,none⟩) len cap) xs)(ae:fp.Nodup){i:Nat}(Z:i<xs.length):
  ∃cs fq,jP w b (off+i*Rd.n α) cs∧Rd.rd fq w cs xs[i]∧(∀c∈fq,c∈fp)∧b∈fp∧b∉fq∧fq.Nodup∧
   (∀j,j<Rd.n α→w.frozen? ⟨b,off+i*Rd.n α+j,none⟩=false)∧
   ∀w' D y,Foc b (off+i*Rd.n α) (Rd.n α) fq w w'→jP w' b (off+i*Rd.n α) D→Rd.rd fq w' D y→SlR fp w' (.slice (some ⟨b,off,none⟩) len cap) (xs.set i y):=by
 have aL:=h.lt;obtain⟨a,ax,hv,h1,h2,⟨rfl,rfl⟩|⟨b',ay,fps,ah,rfl,rfl,hl,U,hx⟩⟩:=h
 ·simp at Z
 ·injection hv with I e2 e3
  injection I with I;injection I with I e4 _;subst I e4 e2 e3;have q:=List.nodup_cons.1 ae;have J:=List.pairwise_flatten.1 q.2;have X:=List.pairwise_iff_getElem.1 J.2;obtain⟨cs,hc,hr⟩:=hx i Z (by omega);have hmem:∀c∈fps[i]'(by omega),c∈fps.flatten:=fun c hc=>List.mem_flatten.2 ⟨_,List.getElem_mem _,hc⟩
  refine⟨cs,fps[i]'(by omega),hc,hr,fun c hc=>List.mem_cons_of_mem _ (hmem c hc),by simp,fun e=>q.1 (hmem _ e),J.1 _ (List.getElem_mem _),fun j K=>?_,fun w' D y hF ai aj=>?_⟩
  ·have:=U (i*Rd.n α+j) (by
    have:(i+1)*Rd.n α≤xs.length*Rd.n α:=Nat.mul_le_mul_right _ Z;rw[Nat.add_mul] at this;omega)
   rwa [←Nat.add_assoc] at this
  ·refine⟨_,cap,by simp,by simpa using h1,by simpa using h2,.inr ⟨b,off,fps,fun e=>ah (List.length_eq_zero_iff.1 (by have:=congrArg List.length e;simpa using this)),rfl,rfl,by simpa using hl,fun j K=>by rw[hF.frozen];exact U j (by simpa using K),fun k hk O=>?_⟩⟩
   simp only[List.length_set] at hk
   by_cases E:k=i
   ·subst E
    exact⟨D,ai,by simpa using aj⟩
   ·obtain⟨ck,au,Y⟩:=hx k hk O
    refine⟨ck,fun j v K=>?_,?_⟩
    ·have aN:j<Rd.n α:=by
      have:=Rd.len Y;have:=(List.getElem?_eq_some_iff.1 K).1;omega
     rw[hF.cell _ ?_]
     ·exact au j v K
     ·rcases Nat.lt_or_gt_of_ne E with s|T
      ·left
       have:(k+1)*Rd.n α≤i*Rd.n α:=Nat.mul_le_mul_right _ s;rw[Nat.add_mul] at this;omega
      ·right
       have:(i+1)*Rd.n α≤k*Rd.n α:=Nat.mul_le_mul_right _ T;rw[Nat.add_mul] at this;omega
    ·rw[List.getElem_set_ne (fun e=>E e.symm)]
     refine Rd.wr Y hF.wr fun c B H=>?_
     rcases List.mem_cons.1 H with e|H
     ·subst e
      exact q.1 (List.mem_flatten.2 ⟨_,List.getElem_mem _,B⟩)
     ·rcases Nat.lt_or_gt_of_ne E with s|T
      ·exact X k i O (by omega) s c B c H rfl
      ·exact X i k (by omega) O T c H c B rfl
def gK{α:Type}(f:Int→α→α×Int):Int→List α→List α×Int
 |k,[]=>([],k)
 |k,x::xs=>((f k x).1::(gK f (f k x).2 xs).1,(gK f (f k x).2 xs).2)
theorem jT{α:Type}(f:Int→α→α×Int)(xs:List α):∀k,(gK f k xs).1.length=xs.length:=by
 induction xs with
 |nil=>intro k;rfl
 |cons x xs h=>intro k;simp[gK,h]
theorem lD{α:Type}(f:Int→α→α×Int)(xs h:List α):∀k,gK f k (xs++h)=((gK f k xs).1++(gK f (gK f k xs).2 h).1,(gK f (gK f k xs).2 h).2):=by
 induction xs with
 |nil=>intro k;rfl
 |cons x xs q=>intro k;simp[gK,q]
def markT{α:Type}(f:Int→α→α×Int)(k:Int)(xs:List α)(i:Nat):List α:=(gK f k (xs.take i)).1++xs.drop i
theorem iE{α:Type}(f:Int→α→α×Int)(k:Int)(xs:List α):markT f k xs 0=xs:=by simp[markT,gK]
theorem jb{α:Type}(f:Int→α→α×Int)(k:Int)(xs:List α):markT f k xs xs.length=(gK f k xs).1:=by simp[markT]
theorem iJ{α:Type}(f:Int→α→α×Int)(k:Int)(xs:List α)(i:Nat):(markT f k xs i).length=xs.length:=by
 simp[markT,jT];omega
theorem iA{α:Type}(f:Int→α→α×Int)(k:Int)(xs:List α){i:Nat}(h:i<xs.length):
  markT f k xs (i+1)=(markT f k xs i).set i (f (gK f k (xs.take i)).2 xs[i]).1:=by
 unfold markT;rw[List.take_succ_eq_append_getElem h,lD];have q:(gK f k (xs.take i)).1.length=i:=by simp[jT];omega
 rw[List.set_append_right _ _ (by omega),q,Nat.sub_self];rw[List.drop_eq_getElem_cons h];simp only[gK,List.set_cons_zero,List.append_assoc,List.cons_append,List.nil_append]
theorem dF{α:Type}(f:Int→α→α×Int)(k:Int)(xs:List α){i:Nat}(h:i<xs.length):
  (gK f k (xs.take (i+1))).2=(f (gK f k (xs.take i)).2 xs[i]).2:=by
 rw[List.take_succ_eq_append_getElem h,lD];rfl
theorem H7{α:Type}(f:Int→α→α×Int)(k:Int)(xs:List α){i:Nat}(q:i<xs.length):
  (gK f k xs).1[i]'(by rw[jT];exact q)=(f (gK f k (xs.take i)).2 xs[i]).1:=by
 have h:gK f k xs=gK f k (xs.take i++xs.drop i):=by rw[List.take_append_drop]
 have s:(gK f k (xs.take i)).1.length=i:=by simp[jT];omega
 have B:(gK f k xs).1=(gK f k (xs.take i)).1++(gK f (gK f k (xs.take i)).2 (xs.drop i)).1:=by rw[h,lD]
 have D:(gK f k xs).1[i]?=some (f (gK f k (xs.take i)).2 xs[i]).1:=by
  rw[B,List.getElem?_append_right (by omega),s,Nat.sub_self,List.drop_eq_getElem_cons q];simp[gK]
 exact(List.getElem_eq_iff _).2 D
theorem El{w w':World}{base n size:Nat}{e:TypeId}{v:Value}{xs:List Value}(h:w.ownsRow base e size v n xs)(q:Gr w w'):w'.ownsRow base e size v n xs:=
 h.kept (row:=none) ⟨q.below.os,q.below.tape,q.below.output,q.below.size,fun k s _=>q.below.block k s⟩ (by cases B:v.ownBlock<;>simp)
theorem jm{y:Int}(h:0≤y)(q:y≤140737488351232):(Lit.int .i64 y).wf=true:=by
 simp only[Lit.wf,Bool.and_eq_true,decide_eq_true_eq];have s:IntKind.i64.min= -9223372036854775808:=by decide
 have B:IntKind.i64.max=9223372036854775807:=by decide
 omega
theorem rO{y:Int}(h:(Lit.int .i64 y).wf=true)(w:World):Rd.rd (α:=Int) [] w [.int .i64 y] y:=⟨rfl,rfl,h⟩
theorem Gr.grown{w0 w w':World}(h:Gr w0 w){row:Option Nat}(q:w.grownBy w' row)(hrow:∀b,row=some b→w0.heap.size≤b)(B:w.drawn≤w'.drawn):Gr w0 w':=by
 refine Gr.of_below ⟨q.os.trans h.below.os,q.tape.trans h.below.tape,q.output.trans h.below.output,Nat.le_trans h.below.size q.size,fun k s=>?_⟩ (Nat.le_trans h.drawn B)
 rw[q.block k (Nat.lt_of_lt_of_le s h.below.size) (fun e=>by have:=hrow k e.symm;omega)];exact h.below.block k s
theorem flat_get{h:List (List Value)}{n:Nat}(q:∀c∈h,c.length=n){i j:Nat}(s:i<h.length)(E:j<n):h.flatten[i*n+j]?=h[i][j]?:=by
 induction h generalizing i with
 |nil=>simp at s
 |cons c h B=>
  have hc:c.length=n:=q c (by simp);rw[List.flatten_cons]
  cases i with
  |zero=>
   rw[Nat.zero_mul,Nat.zero_add,List.getElem?_append_left (by omega)];rfl
  |succ i=>
   rw[List.getElem?_append_right (by rw[hc,Nat.add_mul];omega),hc];have e:(i+1)*n+j - n=i*n+j:=by rw[Nat.add_mul];omega
   rw[e,B (fun d D=>q d (List.mem_cons_of_mem _ D)) (by simpa using s)];rfl
theorem nY{h:List (List Value)}{n:Nat}(q:∀c∈h,c.length=n):h.flatten.length=h.length*n:=by
 induction h with
 |nil=>simp
 |cons c h s=>
  rw[List.flatten_cons,List.length_append,q c (by simp),s (fun d B=>q d (List.mem_cons_of_mem _ B)),List.length_cons,Nat.add_mul];omega
structure Els{α:Type}[Rd α](w:World)(css:List (List Value))(fps:List (List Nat))(xs:List α):Prop where
 cl:css.length=xs.length
 fl:fps.length=xs.length
 rd:∀i (h:i<xs.length) (h1:i<css.length) (h2:i<fps.length),Rd.rd fps[i] w css[i] xs[i]
theorem Els.nil{α:Type}[Rd α](w:World):Els (α:=α) w [] [] []:=⟨rfl,rfl,fun _ h=>absurd h (Nat.not_lt_zero _)⟩
theorem Els.one{α:Type}[Rd α]{w:World}{cs:List Value}{fq:List Nat}{x:α}(h:Rd.rd fq w cs x):Els w [cs] [fq] [x]:=
 ⟨rfl,rfl,fun i q _ _=>by
  obtain rfl:i=0:=by simpa using q
  exact h⟩
theorem Els.n{α:Type}[Rd α]{w:World}{q:List (List Value)}{fps:List (List Nat)}{xs:List α}(h:Els w q fps xs):∀c∈q,c.length=Rd.n α:=by
 intro c hc
 obtain⟨i,s,rfl⟩:=List.mem_iff_getElem.1 hc;exact Rd.len (h.rd i (by rw[←h.cl];exact s) s (by rw[h.fl,←h.cl];exact s))
theorem Els.mono{α:Type}[Rd α]{w w':World}{q:List (List Value)}{fps:List (List Nat)}{xs:List α}(h:Els w q fps xs)(B:fB fps.flatten w w'):Els w' q fps xs:=
 ⟨h.cl,h.fl,fun i D E s=>Rd.mono (B.sub fun _ hc=>List.mem_flatten.2 ⟨_,List.getElem_mem s,hc⟩) (h.rd i D E s)⟩
theorem Els.lt{α:Type}[Rd α]{w:World}{s:List (List Value)}{fps:List (List Nat)}{xs:List α}(h:Els w s fps xs):∀b∈fps.flatten,b<w.heap.size:=by
 intro b D
 obtain⟨f,E,B⟩:=List.mem_flatten.1 D;obtain⟨i,q,rfl⟩:=List.mem_iff_getElem.1 E;exact Rd.lt (h.rd i (by rw[←h.fl];exact q) (by rw[h.cl,←h.fl];exact q) q) b B
theorem Els.app{α:Type}[Rd α]{w:World}{q s:List (List Value)}{fps B:List (List Nat)}{xs D:List α}(h:Els w q fps xs)(k:Els w s B D):Els w (q++s) (fps++B) (xs++D):=by
 refine⟨by simp[h.cl,k.cl],by simp[h.fl,k.fl],fun i H I J=>?_⟩;have K:=h.cl;have O:=h.fl
 by_cases E:i<xs.length
 ·rw[List.getElem_append_left (by omega),List.getElem_append_left (by omega),List.getElem_append_left E]
  exact h.rd i E _ _
 ·simp only[List.length_append] at H I J
  have r:=k.rd (i - xs.length) (by omega) (by have:=k.cl;omega) (by have:=k.fl;omega);rw[List.getElem_append_right (by omega),List.getElem_append_right (by omega),List.getElem_append_right (by omega)];simpa[K,O] using r
theorem Els.oneCell{α:Type}[Rd α]{w:World}{q:List (List Value)}{fps:List (List Nat)}{xs:List α}(h:Els w q fps xs):∀u∈q.flatten,u.oneCell'=true:=by
 intro u hu
 obtain⟨c,hc,B⟩:=List.mem_flatten.1 hu;obtain⟨i,s,rfl⟩:=List.mem_iff_getElem.1 hc;exact Rd.one (h.rd i (by rw[←h.cl];exact s) s (by rw[h.fl,←h.cl];exact s)) u B
structure bE{α:Type}[Rd α](w0:World)(e:TypeId)(w:World)(v:Value)(fps:List (List Nat))(xs:List α):Prop where
 own:∃css:List (List Value),w.ownsRow w0.heap.size e (Rd.n α) v xs.length css.flatten∧Els w css fps xs
 apart:∀b,v.ownBlock=some b→b∉fps.flatten
theorem bE.nil{α:Type}[Rd α](w0 w:World)(e:TypeId):bE (α:=α) w0 e w (.slice none 0 0) [] []:=
 ⟨⟨[],World.ownsRow_nil _ _ _ _,Els.nil w⟩,fun _ _=>by simp⟩
theorem bE.kF{α:Type}[Rd α]{w0 w:World}(e:TypeId)(h:w0.heap.size≤w.heap.size){g:Nat}(q:g=w.heap.size):bE (α:=α) w0 e (w.alloc (.cells #[] e)) (.slice (some ⟨g,0,none⟩) 0 0) [] []:=by
 subst q;exact⟨⟨[],World.ownsRow_lit w #[] 0 h (Nat.zero_le _) (by simp),Els.nil _⟩,fun _ _=>by simp⟩
theorem bE.gr{α:Type}[Rd α]{w0 w w':World}{e:TypeId}{v:Value}{fps:List (List Nat)}{xs:List α}(h:bE w0 e w v fps xs)(q:Gr w w'):bE w0 e w' v fps xs:=by
 obtain⟨⟨s,D,B⟩,E⟩:=h;exact⟨⟨s,El D q,B.mono (q.lN B.lt)⟩,E⟩
theorem bE.form{α:Type}[Rd α]{w0 w:World}{e:TypeId}{v:Value}{fps:List (List Nat)}{xs:List α}(h:bE w0 e w v fps xs):∃a c,v=.slice a xs.length c:=by
 obtain⟨⟨B,q,D⟩,E⟩:=h;rcases q.2 with⟨rfl,s⟩|⟨g,cap,cur,rfl,_⟩
 ·exact⟨none,0,by rw[s]⟩
 ·exact⟨_,cap,rfl⟩
theorem bE.base{α:Type}[Rd α]{w0 w:World}{e:TypeId}{v:Value}{fps:List (List Nat)}{xs:List α}(h:bE w0 e w v fps xs):∀b,v.ownBlock=some b→w0.heap.size≤b∧b<w.heap.size:=by
 obtain⟨⟨s,q,B⟩,D⟩:=h;exact q.lt
theorem bE.lt{α:Type}[Rd α]{w0 w:World}{e:TypeId}{v:Value}{fps:List (List Nat)}{xs:List α}(h:bE w0 e w v fps xs):∀b∈fps.flatten,b<w.heap.size:=by
 obtain⟨⟨s,B,q⟩,D⟩:=h;exact q.lt
theorem bE.fl{α:Type}[Rd α]{w0 w:World}{e:TypeId}{v:Value}{fps:List (List Nat)}{xs:List α}(h:bE w0 e w v fps xs):fps.length=xs.length:=by
 obtain⟨⟨s,B,q⟩,D⟩:=h;exact q.fl
theorem bE.wr{α:Type}[Rd α]{w0 w w':World}{e:TypeId}{v:Value}{fps:List (List Nat)}{xs:List α}{fq:List Nat}(h:bE w0 e w v fps xs)(hw:Wr fq w w')(J:∀b∈fps.flatten,b∉fq)(K:∀b,v.ownBlock=some b→b∉fq):bE w0 e w' v fps xs:=by
 obtain⟨⟨s,B,D⟩,O⟩:=h;refine⟨⟨s,⟨B.1,?_⟩,D.mono (hw.lN D.lt J)⟩,O⟩;rcases B.2 with T|⟨g,cap,cur,rfl,U,q,X⟩
 ·exact .inl T
 ·have E:g<w.heap.size:=by
   rcases Nat.lt_or_ge g w.heap.size with H|I
   ·exact H
   ·rw[Array.getElem?_eq_none I] at q;cases q
  exact .inr ⟨g,cap,cur,rfl,U,by rw[hw.block g E (K g rfl)];exact q,X⟩
theorem bE.slR{α:Type}[Rd α]{w0 w:World}{e:TypeId}{v:Value}{fps:List (List Nat)}{xs:List α}(h:bE w0 e w v fps xs)(hlen:xs.length≤bn):
  ∃fp,SlR fp w v xs∧((xs=[]∧fp=[])∨∃b,v.ownBlock=some b∧fp=b::fps.flatten):=by
 obtain⟨⟨q,I,s⟩,ha⟩:=h
 by_cases E:xs=[]
 ·subst E
  rcases I.2 with⟨rfl,_⟩|⟨g,cap,cur,rfl,_⟩
  ·exact⟨[],SlR.nil w,.inl ⟨rfl,rfl⟩⟩
  ·exact⟨[],⟨_,cap,rfl,by simp,by simp,.inl ⟨rfl,rfl⟩⟩,.inl ⟨rfl,rfl⟩⟩
 ·have hp:0<xs.length:=List.length_pos_iff.2 E
  rcases I.2 with⟨_,hz⟩|⟨g,cap,cur,rfl,hb,J,K,ae,ah,D⟩
  ·omega
  ·refine⟨g::fps.flatten,⟨_,cap,rfl,K,hlen,.inr ⟨g,0,fps,E,rfl,rfl,s.fl,fun j _=>jB J _,fun i H O=>?_⟩⟩,.inr ⟨g,rfl,rfl⟩⟩
   have B:i<q.length:=by rw[s.cl];exact H
   refine⟨q[i],mF J fun j u T=>?_,s.rd i H B O⟩
   have U:j<Rd.n α:=by
    have:=s.n _ (List.getElem_mem B);have:=(List.getElem?_eq_some_iff.1 T).1;omega
   have Y:=flat_get s.n B U
   have Z:i*Rd.n α+j<xs.length*Rd.n α:=by
    have:(i+1)*Rd.n α≤xs.length*Rd.n α:=Nat.mul_le_mul_right _ H;rw[Nat.add_mul] at this;omega
   have X:(cur.toList.take (xs.length*Rd.n α))[i*Rd.n α+j]?=q.flatten[i*Rd.n α+j]?:=by rw[D]
   rw[List.getElem?_take_of_lt Z,Y,T] at X;rw[Nat.zero_add];simpa using X
theorem bE.fresh{α:Type}[Rd α]{w0 w:World}{e:TypeId}{v:Value}{fps:List (List Nat)}{xs:List α}(h:bE w0 e w v fps xs)(hlen:xs.length≤bn)(q:aY w0 fps.flatten):
  ∃fp,SlR fp w v xs∧aY w0 fp:=by
 obtain⟨fp,s,⟨rfl,rfl⟩|⟨b,B,rfl⟩⟩:=h.slR hlen
 ·exact⟨[],s,aY.nil _⟩
 ·exact⟨_,s,List.nodup_cons.2 ⟨h.apart b B,q.1⟩,fun c hc=>by
   rcases List.mem_cons.1 hc with rfl|hc
   ·exact(h.base _ B).1
   ·exact q.2 c hc⟩
def eT{α:Type}[Rd α](w:World)(x:Value)(h:List (List Nat))(s:List α):Prop:=
 (s=[]∧h=[]∧∃a c,x=.slice a 0 c)∨
 ∃b off c q,x=.slice (some ⟨b,off,none⟩) s.length c∧Els w q h s∧∀j u,q.flatten[j]?=some u→w.cell? ⟨b,off+j,none⟩=some u
theorem eT.one{α:Type}[Rd α]{w:World}{fq:List Nat}{cs:Array Value}{e:TypeId}{y:α}{g:Nat}(q:g=w.heap.size)(h:Rd.rd fq (w.alloc (.cells cs e)) cs.toList y):
  eT (w.alloc (.cells cs e)) (.slice (some ⟨g,0,none⟩) 1 1) [fq] [y]:=by
 subst q;refine .inr ⟨w.heap.size,0,1,[cs.toList],rfl,Els.one h,fun j u s=>?_⟩;rw[Nat.zero_add,World.cell?_alloc_new];simpa using s
theorem eT.qL{α:Type}[Rd α]{w:World}{fp:List Nat}{v:Value}{q:List α}(h:SlR fp w v q):∃s,eT w v s q∧(∀c∈s.flatten,c∈fp)∧(fp.Nodup→s.flatten.Nodup):=by
 obtain⟨a,cap,rfl,D,H,⟨rfl,rfl⟩|⟨b,off,fps,ae,rfl,rfl,T,ah,U⟩⟩:=h
 ·exact⟨[],.inl ⟨rfl,rfl,_,cap,rfl⟩,by simp,by simp⟩
 ·have each:∀i,∃cs:List Value,∀(h:i<q.length) (h':i<fps.length),jP w b (off+i*Rd.n α) cs∧Rd.rd fps[i] w cs q[i]:=by
   intro i
   by_cases B:i<q.length
   ·obtain⟨cs,hc,X⟩:=U i B (by omega)
    exact⟨cs,fun _ _=>⟨hc,X⟩⟩
   ·exact⟨[],fun h=>absurd h B⟩
  obtain⟨f,I⟩:=Classical.axiomOfChoice each;have E:Els w ((List.range q.length).map f) fps q:=⟨by simp,T,fun i Y D H=>by simpa using(I i Y H).2⟩;refine⟨fps,.inr ⟨b,off,cap,_,rfl,E,fun j u J=>?_⟩,fun c hc=>List.mem_cons_of_mem _ hc,fun Z=>(List.nodup_cons.1 Z).2⟩
  have K:j<q.length*Rd.n α:=by
   have:=(List.getElem?_eq_some_iff.1 J).1;rw[nY E.n] at this;simpa using this
  have hp:=Rd.pos (α:=α);have B:j / Rd.n α<q.length:=Nat.div_lt_of_lt_mul (by rw[Nat.mul_comm];exact K);have hm:=Nat.mod_lt j hp;have O:j / Rd.n α*Rd.n α+j % Rd.n α=j:=by rw[Nat.mul_comm];exact Nat.div_add_mod j _
  have D:=flat_get E.n (i:=j / Rd.n α) (j:=j % Rd.n α) (by simpa using B) hm;rw[O,J] at D;have:=(I (j / Rd.n α) B (by omega)).1 (j % Rd.n α) u (by simpa using D.symm)
  rwa [Nat.add_assoc,O] at this
section
variable{P:Program}
theorem yz{w:World}(base:Nat)(t ty e:TypeId)(i:TypeInfo)(z:Value)(size bytes:Nat)(D:P.underlying t=some (.slice e))(E:P.info? e=some i)(O:i.zero=some z)
  (hsize:i.size=size) (J:i.bytes=bytes) (U:z.cells.size=size) (X:0<size)
  (v:Value) (n:Nat) (xs:List Value) (hown:w.ownsRow base e size v n xs)
  (a:Addr) (m c:Nat) (news:List Value) (s:news.length=m*size) (hnews:∀j u,news[j]?=some u→w.cell? (a.add j)=some u) (Y:∀u∈news,u.oneCell'=true) (hm:0<m)
  (K:n+m≤maxLen) (hbytes:(n+m)*bytes≤140737488355328) (hbase:base≤w.heap.size):
  ∃H w',(Builtin.append_ #[t,t] ty #[v,.slice (some a) m c]).run P w=.ok H w'∧w'.ownsRow base e size H (n+m) (xs++news)∧w.grownBy w' v.ownBlock∧w.drawn≤w'.drawn:=by
 obtain⟨H,w',I,h2,h3,-⟩:=run_append_own (P:=P) w base t ty e i z size bytes D E O hsize J U X v n xs hown a m c news s hnews Y K hbytes hbase;refine⟨H,w',I,h2,h3,?_⟩;subst hsize;subst J;have Z:n+m≤9223372036854775807:=by simp only[maxLen] at K;omega
 rcases hown.2 with⟨rfl,rfl⟩|⟨g,cap,cur,rfl,ai,hg,aj,au,ae,ah⟩
 ·have h:=run_append_nil (P:=P) w t ty e i z D E O a m c news s hnews hm (by omega) (by have hb:=hbytes;simp only[Nat.zero_add] at hb;omega)
  have:=I.symm.trans h;injection this with _ B;rw[B]
  show w.drawn≤w.drawn+1
  omega
 ·by_cases q:n+m≤cap
  ·have T:n*i.size+news.length≤cur.size:=by rw[s,ae,←Nat.add_mul];exact Nat.mul_le_mul_right _ q
   have h:=run_append_room (P:=P) w t ty e i D E g n cap cur hg a m c news s hnews Y q T;have:=I.symm.trans h;injection this with _ B;rw[B];exact Nat.le_refl _
  ·have holds:∀j u,xs[j]?=some u→w.cell? ((⟨g,0,none⟩:Addr).add j)=some u:=hown.cells (g:=g) rfl
   have h:=run_append_grow (P:=P) w t ty e i z D E O ⟨g,0,none⟩ n cap xs hown.1 holds a m c news s hnews (by omega) (by omega) (growslice_fits (by omega) hbytes);have:=I.symm.trans h;injection this with _ B;rw[B]
   show w.drawn≤w.drawn+1
   omega
theorem mO{α:Type}[Rd α]{wg w0 w:World}(hG:Gr wg w)(aL:wg.heap.size≤w0.heap.size)(Z:w0.heap.size≤w.heap.size)(t ty e:TypeId)(i:TypeInfo)(z:Value)(bytes:Nat)(B:P.underlying t=some (.slice e))(U:P.info? e=some i)(hz:i.zero=some z)
  (hsize:i.size=Rd.n α) (ae:i.bytes=bytes) (ah:z.cells.size=Rd.n α) {v:Value} {fps:List (List Nat)} {xs:List α} (hown:bE w0 e w v fps xs)
  {x:Value} {E:List (List Nat)} {q:List α} (hsrc:eT w x E q) (ai:∀b,v.ownBlock=some b→b∉E.flatten) (aj:xs.length+q.length≤maxLen) (hbytes:(xs.length+q.length)*bytes≤140737488355328):
  ∃J w',(Builtin.append_ #[t,t] ty #[v,x]).run P w=.ok J w'∧bE w0 e w' J (fps++E) (xs++q)∧w.grownBy w' v.ownBlock∧(J.ownBlock=v.ownBlock∨J.ownBlock=some w.heap.size)∧Gr wg w'∧w.drawn≤w'.drawn:=by
 have hbase:=hown.base;have au:=hown.lt;have s:=hown.apart;obtain⟨a1,X,H⟩:=hown.form;obtain⟨⟨ax,O,hE⟩,ha⟩:=hown;rcases hsrc with⟨rfl,rfl,a,c,rfl⟩|⟨b,off,c,T,rfl,D,hnews⟩
 ·have hs:Src P i.size t (.slice a 0 c) 0 [] w:=by
   cases a with
   |none=>exact Src.ofNil w B c
   |some a=>exact Src.ofSlice w B a 0 c [] (by simp) (by simp) (by simp)
  have hle:xs.length≤X:=by
   rcases O.2 with⟨rfl,h0⟩|⟨g,cap,cur,rfl,_,_,aN,_⟩
   ·omega
   ·injection H with _ _ e3;omega
  have K:=run_append_nothing (P:=P) w t t ty e i B U a1 xs.length X hle _ hs;rw[←H] at K;exact⟨v,w,K,⟨⟨ax,by simpa using O,by simpa using hE⟩,by simpa using ha⟩,⟨rfl,rfl,rfl,Nat.le_refl _,fun _ _ _=>rfl⟩,.inl rfl,hG,Nat.le_refl _⟩
 ·have hp:=Rd.pos (α:=α)
  have hl:T.flatten.length=q.length*Rd.n α:=by rw[nY D.n,D.cl]
  have ay:∀j u,T.flatten[j]?=some u→w.cell? ((⟨b,off,none⟩:Addr).add j)=some u:=by
   intro j u hj
   have e:(⟨b,off,none⟩:Addr).add j=⟨b,off+j,none⟩:=by
    unfold Addr.add
    split
    ·rename_i e;subst e;rfl
    ·rfl
   rw[e];exact hnews j u hj
  obtain⟨J,w',K,h2,Y,-,h5⟩:=run_append_own_at (P:=P) w w0.heap.size t ty e i z (Rd.n α) bytes B U hz hsize ae ah hp v xs.length _ O ⟨b,off,none⟩ q.length c _ hl ay D.oneCell aj hbytes Z
  have hd:w.drawn≤w'.drawn:=by
   by_cases h0:q.length=0
   ·have hs:Src P i.size t (.slice (some ⟨b,off,none⟩) q.length c) 0 [] w:=by
     rw[h0];exact Src.ofSlice w B _ 0 c [] (by simp) (by simp) (by simp)
    have hle:xs.length≤X:=by
     rcases O.2 with⟨rfl,h0⟩|⟨g,cap,cur,rfl,_,_,aN,_⟩
     ·omega
     ·injection H with _ _ e3;omega
    have I:=run_append_nothing (P:=P) w t t ty e i B U a1 xs.length X hle _ hs;rw[←H] at I;have:=K.symm.trans I;injection this with _ e2;rw[e2];exact Nat.le_refl _
   ·obtain⟨v2,w2,I,-,-,h4⟩:=yz (P:=P) (w:=w) w0.heap.size t ty e i z (Rd.n α) bytes B U hz hsize ae ah hp v xs.length _ O ⟨b,off,none⟩ q.length c _ hl ay D.oneCell (by omega) aj hbytes Z
    have:=K.symm.trans I;injection this with _ e2;rw[e2];exact h4
  have aS:fB fps.flatten w w':=fun c hc=>Y.block c (au c hc) fun e=>s c e.symm hc
  have aV:fB E.flatten w w':=fun c hc=>Y.block c (D.lt c hc) fun e=>ai c e.symm hc
  refine⟨J,w',K,⟨⟨ax++T,by simpa using h2,(hE.mono aS).app (D.mono aV)⟩,fun b' h hm=>?_⟩,Y,h5,hG.grown Y (fun b hb=>Nat.le_trans aL (hbase b hb).1) hd,hd⟩;rw[List.flatten_append,List.mem_append] at hm;rcases h5 with e5|e5
  ·rw[e5] at h
   rcases hm with hm|hm
   ·exact s b' h hm
   ·exact ai b' h hm
  ·rw[e5] at h
   injection h with h;subst h;rcases hm with hm|hm
   ·exact Nat.lt_irrefl _ (au _ hm)
   ·exact Nat.lt_irrefl _ (D.lt _ hm)
theorem Be{α:Type}[Rd α]{w0 w:World}(B:Gr w0 w)(t ty e:TypeId)(i:TypeInfo)(z:Value)(bytes:Nat)(J:P.underlying t=some (.slice e))(K:P.info? e=some i)(O:i.zero=some z)
  (hsize:i.size=Rd.n α) (D:i.bytes=bytes) (E:z.cells.size=Rd.n α) {v:Value} {fps:List (List Nat)} {xs:List α} (hown:bE w0 e w v fps xs)
  {x:Value} {q:List (List Nat)} {s:List α} (hsrc:eT w x q s) (H:∀b,v.ownBlock=some b→b∉q.flatten) (I:xs.length+s.length≤maxLen) (hbytes:(xs.length+s.length)*bytes≤140737488355328):
  ∃h w',(Builtin.append_ #[t,t] ty #[v,x]).run P w=.ok h w'∧bE w0 e w' h (fps++q) (xs++s)∧w.grownBy w' v.ownBlock∧(h.ownBlock=v.ownBlock∨h.ownBlock=some w.heap.size)∧Gr w0 w':=by
 obtain⟨h,w',T,U,X,Y,Z,-⟩:=mO (P:=P) B (Nat.le_refl _) B.size t ty e i z bytes J K O hsize D E hown hsrc H I hbytes;exact⟨h,w',T,U,X,Y,Z⟩
theorem Wr.CB{w w':World}{row:Option Nat}(h:w.grownBy w' row)(q:w.drawn≤w'.drawn):Wr row.toList w w':=
 ⟨h.os,h.tape,h.output,h.size,q,fun b s B=>h.block b s fun e=>B (by rw[←e];simp)⟩
theorem bP{α:Type}[Rd α]{w0 w:World}(U:Gr w0 w){ops:Array Oper}{rest:List Oper}{o:Oper}{a:Act}{Q:Exit→Act→World→Prop}(E:o.guard=none)(s x:Operand)(t:TypeId)
  (X:o.op=.call {callee:=.builtin .append,args:=#[s,x],argTypes:=#[t,t]})
  (e:TypeId) (i:TypeInfo) (z:Value) (bytes:Nat) (Y:P.underlying t=some (.slice e)) (Z:P.info? e=some i) (hz:i.zero=some z)
  (hsize:i.size=Rd.n α) (H:i.bytes=bytes) (I:z.cells.size=Rd.n α)
  (v:Value) (fps:List (List Nat)) (xs:List α) (hs:a.eval s=v) (hown:bE w0 e w v fps xs)
  (J:Value) (B:List (List Nat)) (D:List α) (hx:a.eval x=J) (hsrc:eT w J B D) (O:∀b,v.ownBlock=some b→b∉B.flatten)
  (T:xs.length+D.length≤maxLen) (hbytes:(xs.length+D.length)*bytes≤140737488355328)
  (h:∀q w',bE w0 e w' q (fps++B) (xs++D)→w.grownBy w' v.ownBlock→(q.ownBlock=v.ownBlock∨q.ownBlock=some w.heap.size)→Gr w0 w'→wpList P ops Q rest (a.put o.dst q) w'):wpList P ops Q (o::rest) a w:=by
 refine wpList_plain E fun K hK=>?_
 obtain⟨q,w',hr,h2,h3,h4,h5⟩:=Be (P:=P) U t o.type e i z bytes Y Z hz hsize H I hown hsrc O T hbytes;unfold Oper.wp execOp;simp only[X,resolve,invoke,builtin,Sem.run_bind,Sem.run_pure,Result.andThen_ok,List.map_toArray,List.map_cons,List.map_nil,hs,hx,hr];exact hK _ _ (h q w' h2 h3 h4 h5)
theorem eU{α:Type}[Rd α]{wg w0 w:World}(Y:Gr wg w)(E:wg.heap.size≤w0.heap.size)(H:w0.heap.size≤w.heap.size){ops:Array Oper}{rest:List Oper}{o:Oper}{a:Act}{Q:Exit→Act→World→Prop}(I:o.guard=none)(s x:Operand)(t:TypeId)
  (Z:o.op=.call {callee:=.builtin .append,args:=#[s,x],argTypes:=#[t,t]})
  (e:TypeId) (i:TypeInfo) (z:Value) (bytes:Nat) (ht:P.underlying t=some (.slice e)) (hi:P.info? e=some i) (hz:i.zero=some z)
  (hsize:i.size=Rd.n α) (J:i.bytes=bytes) (O:z.cells.size=Rd.n α)
  (v:Value) (fps:List (List Nat)) (xs:List α) (hs:a.eval s=v) (hown:bE w0 e w v fps xs)
  (T:Value) (B:List (List Nat)) (D:List α) (hx:a.eval x=T) (hsrc:eT w T B D) (U:∀b,v.ownBlock=some b→b∉B.flatten)
  (X:xs.length+D.length≤maxLen) (hbytes:(xs.length+D.length)*bytes≤140737488355328)
  (h:∀q w',bE w0 e w' q (fps++B) (xs++D)→Wr v.ownBlock.toList w w'→(q.ownBlock=v.ownBlock∨q.ownBlock=some w.heap.size)→Gr wg w'→wpList P ops Q rest (a.put o.dst q) w'):wpList P ops Q (o::rest) a w:=by
 refine wpList_plain I fun K hK=>?_
 obtain⟨q,w',hr,h2,h3,h4,h5,h6⟩:=mO (P:=P) Y E H t o.type e i z bytes ht hi hz hsize J O hown hsrc U X hbytes;unfold Oper.wp execOp;simp only[Z,resolve,invoke,builtin,Sem.run_bind,Sem.run_pure,Result.andThen_ok,List.map_toArray,List.map_cons,List.map_nil,hs,hx,hr];exact hK _ _ (h q w' h2 (Wr.CB h3 h6) h4 h5)
end
end Go.Proofs.YtdhighcpmcdmmaaGreat
namespace Go.Proofs.YtdhighcpmcdmmaaGreat
open Go.RowKit
section
variable{P:Program}{ops:Array Oper}{Q:Exit→Act→World→Prop}{md:Region.Mode}{S:World→Prop}{z:Nat}
def waits(md:Region.Mode)(ops:Array Oper)(z i:Nat):Bool:=((ops[z]?).map fun p=>p.after.any fun e=>Region.binds md e&&e.on==i).getD false
def qy(P:Program)(md:Region.Mode)(ops:Array Oper)(Q:Exit→Act→World→Prop)(S:World→Prop)(z:Nat):Nat→Array Bool→Act→World→Prop
 |0,l,a,w=>Region.ready md ops l=[]∧Q .normal a w
 |n+1,l,a,w=>(Region.ready md ops l=[]→Q .normal a w)∧
   ∀i∈Region.ready md ops l,wpOp P ops Q i (fun b u=>(i≠z→S u)∧qy P md ops Q S z n (l.setIfInBounds i true) b u) a w
theorem CS:∀(n:Nat) (l:Array Bool) (a:Act) (w:World),qy P md ops Q S z n l a w→wpAny P md ops Q n l a w
 |0,_,_,_,h=>h
 |n+1,_,_,_,h=>⟨h.1,fun i q=>wpOp_mono (fun b u k=>CS n _ b u k.2) (h.2 i q)⟩
theorem Cn{i j:Nat}{l:Array Bool}(B:i∈Region.ready md ops l)(q:l.getD i false=true):j=i→False:=by
 intro _
 have s:=(mem_ready.1 B).1
 by_cases h:i<l.size
 ·simp[h] at s q;rw[s] at q;cases q
 ·simp[Array.getElem?_eq_none (Nat.le_of_not_lt h)] at q
theorem D8{i:Nat}{o:Oper}{v:Value}(J:ops[i]?=some o)(X:waits md ops z i=true)(Y:∀(j:Nat) (p:Oper) cs b,ops[j]?=some p→p.op≠.select cs b)
  (hq:∀c a w,Q (.panic c) (a.put o.dst v) w→Q (.panic c) a w) (n:Nat):
  ∀(l:Array Bool) (a:Act) (w:World),
   (∀j p,ops[j]?=some p→j≠i→l.getD j true=false→(∀e∈p.after,Region.binds md e=true→e.on≠i)→o.apart ops p=true)→
   i∈Region.ready md ops l→YieldsIf P ops S o v a→S w→qy P md ops Q S z n (l.setIfInBounds i true) (a.put o.dst v) w→qy P md ops Q S z (n+1) l a w:=by
 induction n with
 |zero=>
  intro l a w _ h s hw hu
  constructor
  ·intro K;rw[K] at h;cases h
  ·intro j B
   by_cases e:j=i
   ·subst e;exact s.wpOp J hw ⟨fun _=>hw,hu⟩
   ·have hm:=ready_mono B e
    rw[hu.1] at hm;cases hm
 |succ n ih=>
  intro l a w Z h s hw hu
  constructor
  ·intro K;rw[K] at h;cases h
  ·intro j B
   by_cases e:j=i
   ·subst e;exact s.wpOp J hw ⟨fun _=>hw,hu⟩
   ·have step:=hu.2 j (ready_mono B e)
    obtain⟨E,p,D,O⟩:=mem_ready.1 B
    have H:∀x∈p.after,Region.binds md x=true→x.on≠i:=fun x T hb he=>by
     have k1:=O x T hb;rw[he] at k1;exact Cn (j:=i) h k1 rfl
    have ae:j≠z:=by
     intro c
     subst c;simp only[waits,D,Option.map_some,Option.getD_some] at X;obtain⟨x,T,U⟩:=Array.any_eq_true'.1 X;simp only[Bool.and_eq_true,beq_iff_eq] at U;exact H x T U.1 U.2
    have moved:=wpOp_putIf D (Z j p D e E H) (fun cs b=>Y i o cs b J) (fun cs b=>Y j p cs b D) hq s step
    have ah:∀k q,ops[k]?=some q→k≠i→(l.setIfInBounds j true).getD k true=false→(∀x∈q.after,Region.binds md x=true→x.on≠i)→o.apart ops q=true:=by
     intro k q hk ai aj hn
     refine Z k q hk ai ?_ hn
     by_cases c:j=k
     ·subst c;exact E
     ·rwa [getD_set_ne true c] at aj
    refine wpOp_mono ?_ moved
    rintro b u ⟨au,I,hU⟩;refine⟨I,ih _ b u ah (ready_mono h (Ne.symm e)) au (I ae) ?_⟩;rw[Array.setIfInBounds_comm _ _ e];exact hU
theorem Fp{i:Nat}{o:Oper}{v:Value}{n:Nat}{l:Array Bool}{a:Act}{w:World}(q:ops[i]?=some o)(s:waits md ops z i=true)
  (B:Region.noSelect ops=true) (D:Region.free md ops l i=true) (E:(Region.ready md ops l).contains i=true)
  (H:∀c a w,Q (.panic c) (a.put o.dst v) w→Q (.panic c) a w) (I:YieldsIf P ops S o v a) (hw:S w)
  (h:qy P md ops Q S z n (l.setIfInBounds i true) (a.put o.dst v) w):qy P md ops Q S z (n+1) l a w:=
 D8 q s (Region.noSelect_spec B) H n l a w (Region.free_spec q D) (by simpa using E) I hw h
theorem uq1{α:Type}(l:List α)(i:Nat)(a:α):l.toArray.setIfInBounds i a=(l.set i a).toArray:=List.setIfInBounds_toArray l i a
theorem uq2{α:Type}{x:α}{xs:List α}{a:α}:(x::xs).set 0 a=a::xs:=rfl
theorem uq3{α:Type}{x:α}{xs:List α}{n:Nat}{a:α}:(x::xs).set (n+1) a=x::xs.set n a:=rfl
theorem bR(i:Nat){o:Oper}{v:Value}{n:Nat}{l q:Array Bool}{a s:Act}{w:World}(h:qy P md ops Q S z n q s w)(D:ops[i]?=some o:=by rfl)(E:waits md ops z i=true:=by kernel_rfl)
  (H:Region.noSelect ops=true:=by kernel_rfl) (I:Region.free md ops l i=true:=by kernel_rfl) (J:(Region.ready md ops l).contains i=true:=by kernel_rfl)
  (K:∀c a w,Q (.panic c) (a.put o.dst v) w→Q (.panic c) a w:=by exact fun _ _ _ h=>h) (O:YieldsIf P ops S o v a:=by refine Or.inl ⟨by rfl,?_⟩;intro w B;(try dsimp only at B);go_simp;all_goals with_reducible rfl) (hw:S w:=by assumption) (T:a.put o.dst v=s:=by(try simp only[Act.put,uq1,uq2,uq3]);rfl) (U:l.setIfInBounds i true=q:=by(try simp only[Array.replicate,uq1,uq2,uq3]);rfl):
  qy P md ops Q S z (n+1) l a w:=Fp D E H I J K O hw (by rw[T,U];exact h)
theorem aK(i s:Nat){o:Oper}{v:Value}{n:Nat}{l q:Array Bool}{a B:Act}{w:World}(h:wpAnyH P md ops Q S n q B w)(E:ops[i]?=some o:=by rfl)(H:o.dst=some s:=by rfl)
  (I:Region.noSelect ops=true:=by kernel_rfl) (J:Region.free md ops l i=true:=by kernel_rfl) (K:(Region.ready md ops l).contains i=true:=by kernel_rfl)
  (O:∀c a w,Q (.panic c) (a.put o.dst v) w→Q (.panic c) a w:=by exact fun _ _ _ h=>h) (T:YieldsIf P ops S o v a:=by refine Or.inl ⟨by rfl,?_⟩;intro w D;(try dsimp only at D);go_simp;all_goals with_reducible rfl) (hw:S w:=by assumption) (U:a.put (some s) v=B:=by(try simp only[Act.put,uq1,uq2,uq3]);rfl) (X:l.setIfInBounds i true=q:=by(try simp only[Array.replicate,uq1,uq2,uq3]);rfl):
  wpAnyH P md ops Q S (n+1) l a w:=wpAnyH_take E I J K O T hw (by rw[H,U,X];exact h)
theorem gy(rs:List Nat){n:Nat}{l:Array Bool}{a:Act}{w:World}(h:AllReadyH P md ops Q S n l a w rs)(s:Region.ready md ops l=rs:=by kernel_rfl)(q:rs≠[]:=by simp):wpAnyH P md ops Q S (n+1) l a w:=wpAnyH_ready s q h
def bf(P:Program)(md:Region.Mode)(ops:Array Oper)(Q:Exit→Act→World→Prop)(S:World→Prop)(z:Nat)(n:Nat)(l:Array Bool)(a:Act)(w:World)(rs:List Nat):Prop:=
 ∀i∈rs,wpOp P ops Q i (fun b u=>(i≠z→S u)∧qy P md ops Q S z n (l.setIfInBounds i true) b u) a w
theorem bf.nil{n:Nat}{l:Array Bool}{a:Act}{w:World}:bf P md ops Q S z n l a w []:=fun _ h=>by cases h
theorem bf.cons{n:Nat}{l:Array Bool}{a:Act}{w:World}{i:Nat}{o:Oper}{rs:List Nat}(D:ops[i]?=some o)
  (h:∀q:Act→World→Prop,Shut (∀a w,S w→(S w→qy P md ops Q S z n (l.setIfInBounds i true) a w)→q a w)→if Region.wanted o (yielded ops a.tmps)=true then Oper.wp P o a w q Q else q (a.put o.dst undef) w)
  (E:bf P md ops Q S z n l a w rs):bf P md ops Q S z n l a w (i::rs):=fun j s=>by
 rcases List.mem_cons.1 s with rfl|s
 ·exact wpOp_step D (fun q H=>h q (fun a w B I=>H a w ⟨fun _=>B,I B⟩))
 ·exact E j s
theorem bf.last{n:Nat}{l:Array Bool}{a:Act}{w:World}{o:Oper}(s:ops[z]?=some o)
  (h:∀q:Act→World→Prop,Shut (∀a w,qy P md ops Q S z n (l.setIfInBounds z true) a w→q a w)→if Region.wanted o (yielded ops a.tmps)=true then Oper.wp P o a w q Q else q (a.put o.dst undef) w):
  bf P md ops Q S z n l a w [z]:=fun j B=>by
 obtain rfl:j=z:=by simpa using B
 exact wpOp_step s (fun q D=>h q (fun a w E=>D a w ⟨fun c=>absurd rfl c,E⟩))
theorem Ec{rs:List Nat}{n:Nat}{l:Array Bool}{a:Act}{w:World}(q:Region.ready md ops l=rs)(s:rs≠[])
  (h:bf P md ops Q S z n l a w rs):qy P md ops Q S z (n+1) l a w:=⟨fun B=>absurd (q▸B) s,q▸h⟩
theorem dw(rs:List Nat){n:Nat}{l:Array Bool}{a:Act}{w:World}(h:bf P md ops Q S z n l a w rs)(s:Region.ready md ops l=rs:=by kernel_rfl)(q:rs≠[]:=by simp):qy P md ops Q S z (n+1) l a w:=Ec s q h
theorem fF{l:Array Bool}{a:Act}{w:World}(q:Region.ready md ops l=[])(h:Q .normal a w):∀n,qy P md ops Q S z n l a w
 |0=>⟨q,h⟩
 |_+1=>⟨fun _=>h,by rw[q];simp⟩
theorem eB{id:Nat}{a:Act}{w:World}(S:World→Prop)(z:Nat)(hm:P.follows .mixedOrders=true)(q:S w.drew)
  (h:S w.drew→qy P .any ops Q S z ops.size (Array.replicate ops.size false) a w.drew):(Code.region id ops true).wp P Q a w:=
 wp_region_any hm (CS _ _ _ _ (h q))
end
end Go.Proofs.YtdhighcpmcdmmaaGreat
namespace Go.Proofs.YtdhighcpmcdmmaaGreat
open Go.RowKit
section
variable{P:Program}
end
theorem Gv{α:Type}[Rd α](D:Rd.n α=1)(enc:α→Value){w:World}{base n:Nat}{v:Value}{xs:List α}{e:TypeId}(h:w.ownsRow base e 1 v n (xs.map enc))
  (hw:∀y∈xs,Rd.rd [] w [enc y] y) (hlen:xs.length≤bn):∃fq,SlR fq w v xs∧(∀b∈fq,base≤b∧b<w.heap.size)∧fq.Nodup∧n=xs.length:=by
 have U:n=xs.length:=by have:=h.1;simpa using this.symm
 subst U;rcases h.2 with⟨rfl,X⟩|⟨g,cap,cur,rfl,E,B,H,ae,ah,q⟩
 ·have:xs=[]:=List.eq_nil_of_length_eq_zero X
  subst this;exact⟨[],SlR.nil w,by simp,by simp,rfl⟩
 ·have I:g<w.heap.size:=by
   rcases Nat.lt_or_ge g w.heap.size with J|K
   ·exact J
   ·rw[Array.getElem?_eq_none K] at B;cases B
  have Y:∀i (h:i<xs.length),∃c,cur[i]?=some c∧Rd.rd [] w [c] xs[i]:=fun i O=>by
   refine⟨enc xs[i],?_,hw _ (List.getElem_mem O)⟩;have T:(cur.toList.take (xs.length*1))[i]?=(xs.map enc)[i]?:=by rw[q]
   rw[List.getElem?_take_of_lt (by omega),List.getElem?_map,List.getElem?_eq_getElem O] at T;simpa using T
  obtain⟨fp,Z,s⟩:=SlR.flat (xs:=xs) (cap:=cap) B D Y H hlen;refine⟨fp,Z,?_,?_,rfl⟩
  ·rcases s with rfl|rfl
   ·simp
   ·intro b hb
    obtain rfl:b=g:=by simpa using hb
    exact⟨E,I⟩
  ·rcases s with rfl|rfl<;>simp
theorem mV(a b:Int)(w:World):Calls Tryz.prog 235 #[.int .i64 a,.int .i64 b] w fun e w'=>e=.returned (.int .i64 (max a b))∧w=w':=by
 by_cases h:b<a
 ·skip
  go_in;go_wp2_with fail;go_ret;exact⟨aC (by omega),rfl⟩
 ·skip
  go_in;go_wp2_with fail;go_ret;exact⟨aC (by omega),rfl⟩
theorem tO(a b:Int)(w:World):Calls Tryz.prog 239 #[.int .i64 a,.int .i64 b] w fun e w'=>e=.returned (.int .i64 (min a b))∧w=w':=by
 by_cases h:a<b
 ·skip
  go_in;go_wp2_with fail;go_ret;exact⟨aC (by omega),rfl⟩
 ·skip
  go_in;go_wp2_with fail;go_ret;exact⟨aC (by omega),rfl⟩
def sat(n:Int):Int:=max (-1000000) (min 1000000 n)
theorem sat_iff{n:Int}:sat n=n↔-1000000≤n∧n≤1000000:=by unfold sat;omega
theorem ou(n:Int)(w:World):Calls Tryz.prog 238 #[.int .i64 n] w fun e w'=>e=.returned (.int .i64 (sat n))∧w=w':=by
 go_in;go_wp2_with fail;refine(tO _ _ _).mono ?_;rintro e w' ⟨rfl,rfl⟩;go_wp2_with fail;refine(mV _ _ _).mono ?_;rintro e w' ⟨rfl,rfl⟩;go_wp2_with fail;go_ret;exact⟨aC rfl,rfl⟩
theorem u7(n:Int)(w:World):Calls Tryz.prog 217 #[.int .i64 n,.int .i64 1] w fun e w'=>e=.returned (.int .i64 (sat n))∧w=w':=by
 go_in;go_wp2_with fail;refine(ou _ _).mono ?_;rintro e w' ⟨rfl,rfl⟩;go_wp2_with fail;go_ret;exact⟨aC rfl,rfl⟩
theorem Ct(n:Int)(w:World):Calls Tryz.prog 157 #[.int .i64 n,.int .i64 1] w fun e w'=>e=.returned (.bool (decide (-1000000≤n)&&decide (n≤1000000)))∧w=w':=by
 go_in;go_wp2_with fail;refine(fI _ _ _ _).mono ?_;rintro e w' ⟨rfl,rfl⟩;go_wp2_with fail;refine(u7 _ _).mono ?_;rintro e w' ⟨rfl,rfl⟩;go_wp2_with fail;go_ret;refine⟨aa ?_,rfl⟩;rw[Bool.eq_iff_iff];simp;exact sat_iff
section
variable{P:Program}{ops:Array Oper}{Q:Exit→Act→World→Prop}{md:Region.Mode}{S:World→Prop}
end
end Go.Proofs.YtdhighcpmcdmmaaGreat
namespace Go.Proofs.YtdhighcpmcdmmaaGreat.fnExactIsFixpoint
open Go.ChangeShapes Go.WideShapes Go.RowKit
theorem J3:((Rows.fnExactIsFixpointRow.unfollowed==Tryz.pinned.checked.prog.unfollowed 3))=true:=by kernel_rfl
theorem Kc:((Rows.fnExactIsFixpointRow.recurses==Tryz.pinned.checked.prog.recurses 3))=true:=by kernel_rfl
end Go.Proofs.YtdhighcpmcdmmaaGreat.fnExactIsFixpoint
