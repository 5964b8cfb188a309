/- Contracts and laws towards ReadsOf, part 1 of 54. No condition. -/
import Derived.Test.YtleafadpfeibfaaGreatProg
import Derived.WalkKit
import Derived.OpenShut
import Derived.Deep.QuietTactic
import Derived.BigQuiet
import Derived.Lib.Hide
import Derived.Deep.DeepFit
import Derived.WalkSmall
import Derived.ProofKit
import Derived.SizedLaws
import Derived.ChangeArms
import Derived.Deep.Slices
set_option maxHeartbeats 32000000
set_option maxRecDepth 10000
set_option linter.unusedVariables false
set_option linter.unusedSimpArgs false
namespace Go.Proofs.YtleafadpfeibfaaGreat
open Go.RowKit
open _root_.List (getElem_mem mem_append mem_cons_of_mem)
open _root_.Nat (le_refl le_trans lt_of_lt_of_le)
open _root_.Array (getElem?_append)
variable{w w' a w0 c w1:World}{b n m0 m1 m2 m3 m4 m5 off m6 m7 m8 cap k o m9 i m m10 len m11:Nat}{fp fq f:List Nat}{t:TypeId}{v:Value}{C:Array Value}{cs:List Value}{fps:List (List Nat)}{xs:List Int}
structure Ky(p:Prop):Prop where
  o:p
theorem Kz{p:Prop}(h:p):Ky p:=⟨h⟩
theorem toL{a b:List Value}(h:a.toArray=b.toArray):a=b:=Array.toList_inj.2 h
theorem nm{α:Type}(x:α):∃y,y=x:=⟨x,rfl⟩
theorem zI1(k:Nat)(h:-9223372036854775808≤(k:Int)+1∧(k:Int)+1≤9223372036854775807):IntKind.i64.wrap ((k:Int)+1)=(k:Int)+1:=IntWalk.i64_in _ h
structure Ext where
 objs:Array Obj
 drawn:Nat
instance:Inhabited Ext:=⟨⟨#[],0⟩⟩
def _root_.Go.World.ext(w:World)(x:Ext):World:={w with heap:=w.heap++x.objs,drawn:=w.drawn+x.drawn}
section
variable(w:World)(x y:Ext)
@[simp,go_sem] theorem size_ext:(w.ext x).heap.size=w.heap.size+x.objs.size:=by simp[World.ext]
@[simp,go_sem] theorem JX:(w.ext x).drawn=w.drawn+x.drawn:=rfl
theorem mW(h:b<w.heap.size):(w.ext x).heap[b]?=w.heap[b]?:=by
 simp[World.ext,getElem?_append,h]
@[simp,go_sem] theorem Fw {s:Option Nat} (h:b<w.heap.size):(w.ext x).cell? ⟨b,o,s⟩=w.cell? ⟨b,o,s⟩:=
 World.cell?_of_block (mW w x h)
@[simp,go_sem] theorem Jo {s:Option Nat} (h:b<w.heap.size):(w.ext x).frozen? ⟨b,o,s⟩=w.frozen? ⟨b,o,s⟩:=
 World.frozen?_of_block (mW w x h)
@[simp,go_sem] theorem Jw (h:b<w.heap.size):(b<w.heap.size+x.objs.size)=True:=by
 simp;omega
@[simp,go_sem] theorem Jt (h:b<n):(b<n+1)=True:=by
 simp;omega
@[simp,go_sem] theorem Jl (h:b<n):(b<n+m)=True:=by
 simp;omega
@[go_sem] theorem Jz {s:Option Nat} (h:b<w.heap.size):(w.ext x).setCell ⟨b,o,s⟩ v=(w.setCell ⟨b,o,s⟩ v).ext x:=by
 unfold World.setCell World.ext
 congr 1
 apply Array.ext_getElem?;intro k
 simp only[Array.getElem?_modify,getElem?_append,Array.size_modify]
 by_cases hk:b=k
 ·subst hk
  simp[h]
 ·simp[hk]
@[simp,go_sem] theorem I5 (h:b<n):(b<n+m0+m1)=True:=by
 simp;omega
@[simp,go_sem] theorem Iw (h:b<n):(b<n+m0+m1+m2)=True:=by
 simp;omega
@[simp,go_sem] theorem Jd (h:b<n):(b<n+m0+m1+m2+m3)=True:=by
 simp;omega
@[simp,go_sem] theorem IQ (h:b<n):(b<n+m0+m1+m2+m3+m4)=True:=by
 simp;omega
@[simp,go_sem] theorem IG (h:b<n):(b<n+m0+m1+m2+m3+m4+m5)=True:=by
 simp;omega
@[simp,go_sem] theorem Ji (h:b<n):(b<n+m0+m1+m2+m3+m4+m5+m6)=True:=by
 simp;omega
@[simp,go_sem] theorem IM (h:b<n):(b<n+m0+m1+m2+m3+m4+m5+m6+m7)=True:=by
 simp;omega
@[simp,go_sem] theorem I7 (h:b<n):(b<n+m0+m1+m2+m3+m4+m5+m6+m7+m8)=True:=by
 simp;omega
@[simp,go_sem] theorem Ik (h:b<n):(b<n+m0+m1+m2+m3+m4+m5+m6+m7+m8+m9)=True:=by
 simp;omega
@[simp,go_sem] theorem Ii (h:b<n):(b<n+m0+m1+m2+m3+m4+m5+m6+m7+m8+m9+m10)=True:=by
 simp;omega
@[simp,go_sem] theorem Ij (h:b<n):(b<n+m0+m1+m2+m3+m4+m5+m6+m7+m8+m9+m10+m11)=True:=by
 simp;omega
@[simp,go_sem] theorem Im {m12:Nat} (h:b<n):(b<n+m0+m1+m2+m3+m4+m5+m6+m7+m8+m9+m10+m11+m12)=True:=by
 simp;omega
@[simp,go_sem] theorem Il {m12 m13:Nat} (h:b<n):(b<n+m0+m1+m2+m3+m4+m5+m6+m7+m8+m9+m10+m11+m12+m13)=True:=by
 simp;omega
theorem Fz:Below w.heap.size w (w.ext x):=
 ⟨rfl,rfl,rfl,by simp,fun _ hk=>mW w x hk⟩
end
def Gr(w w':World):Prop:=∃x,w'=w.ext x
abbrev Qz(n:FuncId)(a:Array Value)(w:World)(v:Value):Prop:=Calls Tryz.prog n a w fun e w'=>e=.returned v∧Gr w w'
theorem Gr.of_below(h:Below w.heap.size w w')(I:w.drawn≤w'.drawn):Gr w w':=by
 refine⟨⟨w'.heap.extract w.heap.size w'.heap.size,w'.drawn - w.drawn⟩,?_⟩;obtain⟨h1,q,B,J,D⟩:=h
 cases w;cases w'
 simp only[World.ext,World.mk.injEq] at*;refine⟨?_,q,by omega,h1,B⟩;apply Array.ext_getElem?;intro i
 rw[getElem?_append]
 split
 ·rename_i hi;exact D i hi
 ·rename_i hi
  rw[Array.getElem?_extract]
  split
  ·congr 1;omega
  ·exact Array.getElem?_eq_none (by omega)
theorem Gr.below(h:Gr w w'):Below w.heap.size w w':=by
 obtain⟨x,rfl⟩:=h;exact Fz w x
theorem Gr.drawn(h:Gr w w'):w.drawn≤w'.drawn:=by
 obtain⟨x,rfl⟩:=h;simp
theorem Gr.refl(w:World):Gr w w:=⟨⟨#[],0⟩,by simp[World.ext]⟩
theorem Gr.trans{b:World}(h:Gr a b)(k:Gr b c):Gr a c:=
 Gr.of_below (h.below.trans (k.below.mono h.below.size)) (le_trans h.drawn k.drawn)
theorem Gr.ext{b:World}(h:Gr a b)(x:Ext):Gr a (b.ext x):=h.trans ⟨x,rfl⟩
theorem Gr.alloc{b:World}(h:Gr a b)(o:Obj):Gr a (b.alloc o):=
 h.trans (Gr.of_below ((Below.refl _ _).alloc (le_refl _) o) (le_refl _))
theorem Gr.drew{b:World}(h:Gr a b):Gr a b.drew:=
 h.trans (Gr.of_below ((Below.refl _ _).drew) (Nat.le_succ _))
theorem gd{b:World}(h:Gr a b:=by repeat(first|exact Gr.refl _|apply Gr.ext|apply Gr.alloc|apply Gr.drew)):Gr a b:=h
theorem tg{b:World}(h:Ky (Gr a b))(k:Gr b c:=by exact gd):Gr a c:=h.o.trans k
theorem ga{b:World}(h:Gr a b:=by first|assumption|exact Gr.drew (Gr.refl _)|(repeat(first|assumption|exact Gr.refl _|apply Gr.ext|apply Gr.alloc|apply Gr.drew))):Gr a b:=h
theorem gb{X B:World}(q:X=B)(h:Gr w X:=by exact gd):Gr w B:=q▸h
theorem szB{X B:World}(q:X=B)(h:X.heap.size=n:=by first|(simp;done)|(simp;omega)):B.heap.size=n:=q▸h
theorem Gr.setCell{b:World}(h:Gr a b){p:Addr}(q:a.heap.size≤p.block)(v:Value):Gr a (b.setCell p v):=
 Gr.of_below (h.below.setCell q v) h.drawn
theorem Gr.size(h:Gr w w'):w.heap.size≤w'.heap.size:=h.below.size
def Ext.comp(x y:Ext):Ext:=⟨x.objs++y.objs,x.drawn+y.drawn⟩
theorem iV(w:World)(x y:Ext):(w.ext x).ext y=w.ext (x.comp y):=by
 simp[World.ext,Ext.comp,Array.append_assoc,Nat.add_assoc]
theorem lX(w:World):w.ext ⟨#[],0⟩=w:=by simp[World.ext]
theorem qZ{o o':Obj}(x:Ext){c:Nat}(h:c≠w.heap.size):((w.alloc o').ext x).heap[c]?=((w.alloc o).ext x).heap[c]?:=by
 simp only[World.ext,World.alloc,getElem?_append,Array.getElem?_push,Array.size_push];simp[h]
theorem iD(o:Obj)(x:Ext):((w.alloc o).ext x).heap[w.heap.size]?=some o:=by
 rw[mW _ _ (by simp)];exact heap_alloc_new w o
theorem vv{P:Program}{id:Nat}{Q:Exit→Act→World→Prop}{a:Act}{l:List Oper}(hm:P.follows .mixedOrders=true)(q:Region.lexB .any l.toArray=true)
  (h:wpQuiet P l.toArray (fun w'=>∃x,w'=w.ext x) (fun B=>∀w',(∃x,w'=w.ext x)→Q .normal B w') l a):(Code.region id l.toArray true).wp P Q a w:=
 wp_region_quiet (C:=fun w'=>∃x,w'=w.ext x) hm q (Gr.drew (Gr.refl w)) (by simpa using h)
theorem wg{P:Program}{id:Nat}{Q:Exit→Act→World→Prop}{a:Act}{l:List Oper}(h:wpQuiet P l.toArray (fun w'=>∃x,w'=w.ext x) (fun q=>∀w',(∃x,w'=w.ext x)→Q .normal q w') l a)(hm:P.follows .mixedOrders=true:=by kernel_rfl)(B:Region.lexB .any l.toArray=true:=by kernel_rfl):(Code.region id l.toArray true).wp P Q a w:=vv hm B h
theorem wq{P:Program}{ops:Array Oper}{C:World→Prop}{Q:Act→World→Prop}{a:Act}(h:∀x:Ext,Q a (w.ext x)):wpQuiet P ops C (fun q=>∀w',(∃x,w'=w.ext x)→Q q w') [] a:=fun _ ⟨x,e⟩=>e▸h x
theorem aG{P:Program}{f:FuncId}{args:Array Value}{x:Ext}
  (h:Calls P f args (w.ext x) fun e w'=>e=.returned v∧Gr (w.ext x) w'):Calls P f args (w.ext x) fun e q=>e=.returned v∧∃y,q=w.ext y:=
 h.mono fun _ _ ⟨he,hg⟩=>⟨he,((Gr.refl w).ext x).trans hg⟩
def fB(fp:List Nat)(w w':World):Prop:=∀b∈fp,w'.heap[b]?=w.heap[b]?
theorem fB.refl(fp:List Nat)(w:World):fB fp w w:=fun _ _=>rfl
theorem fB.trans{b:World}(h:fB fp a b)(k:fB fp b c):fB fp a c:=fun x q=>(k x q).trans (h x q)
theorem fB.sub(h:fB fp w w')(hs:∀b∈fq,b∈fp):fB fq w w':=fun b hb=>h b (hs b hb)
theorem fB.cell(h:fB fp w w')(hb:b∈fp)(o:Nat):w'.cell? ⟨b,o,none⟩=w.cell? ⟨b,o,none⟩:=World.cell?_of_block (a:=⟨b,o,none⟩) (h b hb)
theorem fB.frozen(h:fB fp w w')(hb:b∈fp)(o:Nat):w'.frozen? ⟨b,o,none⟩=w.frozen? ⟨b,o,none⟩:=World.frozen?_of_block (a:=⟨b,o,none⟩) (h b hb)
theorem Gr.lN(h:Gr w w')(q:∀b∈fp,b<w.heap.size):fB fp w w':=fun b hb=>h.below.block b (q b hb)
def jP(w:World)(b off:Nat)(cs:List Value):Prop:=∀j v,cs[j]?=some v→w.cell? ⟨b,off+j,none⟩=some v
theorem blk(h:w.cell? ⟨b,o,none⟩=some v):b<w.heap.size:=World.block_lt_of_cell? w ⟨b,o,none⟩ h
class Rd (α:Type) where
 n:Nat
 pos:0<n
 rd:List Nat→World→List Value→α→Prop
 len:∀{fp w cs x},rd fp w cs x→cs.length=n
 lt:∀{fp w cs x},rd fp w cs x→∀b∈fp,b<w.heap.size
 mono:∀{fp w w' cs x},fB fp w w'→rd fp w cs x→rd fp w' cs x
 one:∀{fp w cs x},rd fp w cs x→∀u∈cs,u.oneCell'=true
instance:Rd Int where
 n:=1
 pos:=by omega
 rd fp _ cs x:=fp=[]∧cs=[.int .i64 x]∧(Lit.int .i64 x).wf=true
 len h:=by simp[h.2.1]
 lt h:=by simp[h.1]
 mono _ h:=h
 one h u hu:=by rw[h.2.1] at hu;simp at hu;subst hu;rfl
instance:Rd Bool where
 n:=1
 pos:=by omega
 rd fp _ cs x:=fp=[]∧cs=[.bool x]
 len h:=by simp[h.2]
 lt h:=by simp[h.1]
 mono _ h:=h
 one h u hu:=by rw[h.2] at hu;simp at hu;subst hu;rfl
instance:Rd ByteArray where
 n:=1
 pos:=by omega
 rd fp _ cs x:=fp=[]∧cs=[.string x]∧x.size≤maxLen
 len h:=by simp[h.2.1]
 lt h:=by simp[h.1]
 mono _ h:=h
 one h u hu:=by rw[h.2.1] at hu;simp at hu;subst hu;rfl
def bn:Nat:=140737488351232
def IJ{α:Type}[Rd α](w:World)(b off:Nat)(fps:List (List Nat))(xs:List α):Prop:=
 fps.length=xs.length∧(∀j,j<xs.length*Rd.n α→w.frozen? ⟨b,off+j,none⟩=false)∧∀i (h:i<xs.length) (q:i<fps.length),∃cs,jP w b (off+i*Rd.n α) cs∧Rd.rd fps[i] w cs xs[i]
def SlR{α:Type}[Rd α](fp:List Nat)(w:World)(v:Value)(xs:List α):Prop:=
 ∃a cap,v=.slice a xs.length cap∧xs.length≤cap∧xs.length≤bn∧
  ((xs=[]∧fp=[])∨∃b off fps,xs≠[]∧a=some ⟨b,off,none⟩∧fp=b::fps.flatten∧IJ w b off fps xs)
theorem Jh{α:Type}[Rd α]{x:α}(hc:jP w b off cs)(h:Rd.rd fp w cs x):b<w.heap.size:=by
 have q:=Rd.len h;have B:=Rd.pos (α:=α)
 cases cs with
 |nil=>simp at q;omega
 |cons c cs=>exact blk (hc 0 c rfl)
theorem SlR.lt{α:Type}[Rd α]{xs:List α}(h:SlR fp w v xs):∀b∈fp,b<w.heap.size:=by
 obtain⟨a,cap,rfl,h1,O,⟨rfl,rfl⟩|⟨b,off,fps,q,rfl,rfl,T,K,B⟩⟩:=h
 ·simp
 ·intro c hc
  have I:0<xs.length:=List.length_pos_iff.2 q;rcases List.mem_cons.1 hc with rfl|hc
  ·obtain⟨cs,hc,hr⟩:=B 0 I (by omega)
   exact Jh hc hr
  ·obtain⟨f,J,D⟩:=List.mem_flatten.1 hc
   obtain⟨i,hi,rfl⟩:=List.mem_iff_getElem.1 J;obtain⟨cs,_,hr⟩:=B i (by omega) hi;exact Rd.lt hr c D
theorem IJ.mono{α:Type}[Rd α]{xs:List α}(h:IJ w b off fps xs)(hw:fB (b::fps.flatten) w w'):IJ w' b off fps xs:=by
 obtain⟨I,D,J⟩:=h;refine⟨I,fun j B=>by rw[hw.frozen (by simp)];exact D j B,fun i hi q=>?_⟩;obtain⟨cs,hc,hr⟩:=J i hi q;refine⟨cs,fun j v B=>by rw[hw.cell (by simp)];exact hc j v B,Rd.mono (hw.sub fun c hc=>?_) hr⟩;exact mem_cons_of_mem _ (List.mem_flatten.2 ⟨_,getElem_mem q,hc⟩)
theorem SlR.mono{α:Type}[Rd α]{xs:List α}(hw:fB fp w w')(h:SlR fp w v xs):SlR fp w' v xs:=by
 obtain⟨a,cap,rfl,h1,D,q⟩:=h;refine⟨a,cap,rfl,h1,D,?_⟩;rcases q with q|⟨b,off,fps,B,rfl,rfl,I⟩
 ·exact .inl q
 ·exact .inr ⟨b,off,fps,B,rfl,rfl,I.mono hw⟩
theorem SlR.gr{α:Type}[Rd α]{xs:List α}(h:SlR fp w v xs)(hw:Gr w w'):SlR fp w' v xs:=h.mono (hw.lN h.lt)
theorem Rd.gr{α:Type}[Rd α]{x:α}(h:Rd.rd fp w cs x)(hw:Gr w w'):Rd.rd fp w' cs x:=Rd.mono (hw.lN (Rd.lt h)) h
instance {α:Type} [Rd α]:Rd (List α) where
 n:=1
 pos:=by omega
 rd fp w cs x:=∃v,cs=[v]∧SlR fp w v x
 len h:=by obtain⟨v,rfl,_⟩:=h;rfl
 lt h:=by obtain⟨v,rfl,h⟩:=h;exact h.lt
 mono hw h:=by obtain⟨v,rfl,h⟩:=h;exact⟨v,rfl,h.mono hw⟩
 one h u hu:=by obtain⟨v,rfl,a,cap,rfl,_⟩:=h;simp at hu;subst hu;rfl
theorem SlR.open{α:Type}[Rd α]{xs:List α}(h:SlR fp w v xs):
  ∃a cap,v=.slice a xs.length cap∧xs.length≤cap∧xs.length≤140737488351232∧
   ∀i (_:i<xs.length),∃b off,a=some ⟨b,off,none⟩∧b<w.heap.size:=by
 have q:=h.lt;obtain⟨a,cap,rfl,h1,B,⟨rfl,rfl⟩|⟨b,off,fps,D,rfl,rfl,J,I,K⟩⟩:=h
 ·exact⟨a,cap,rfl,h1,B,fun i hi=>absurd hi (by simp)⟩
 ·exact⟨_,cap,rfl,h1,B,fun i hi=>⟨b,off,rfl,q b (by simp)⟩⟩
theorem SlR.ops{α:Type}[Rd α]{a:Option Addr}{xs:List α}(h:SlR f w (.slice a n m) xs):xs.length≤m∧xs.length≤140737488351232∧∀i,i<xs.length→∃b off,a=some ⟨b,off,none⟩∧b<w.heap.size:=by
 obtain⟨_,_,e,h1,q,B⟩:=h.open
 cases e
 exact⟨h1,q,B⟩
theorem SlR.op3{α:Type}[Rd α]{a:Option Addr}{xs:List α}(h:SlR f w (.slice a n m) xs):∀i,i<xs.length→∃b off,a=some ⟨b,off,none⟩∧b<w.heap.size:=h.ops.2.2
theorem SlR.at{α:Type}[Rd α]{xs:List α}(h:SlR fp w (.slice (some ⟨b,off,none⟩) len cap) xs)(hi:i<xs.length):
  ∃cs fq,jP w b (off+i*Rd.n α) cs∧Rd.rd fq w cs xs[i]∧(∀c∈fq,c∈fp):=by
 obtain⟨a,cap,hv,h1,O,⟨rfl,rfl⟩|⟨T,B,fps,J,rfl,rfl,U,K,D⟩⟩:=h
 ·simp at hi
 ·injection hv with q V X
  injection q with q;injection q with q I _;subst q I;obtain⟨cs,hc,hr⟩:=D i hi (by omega);exact⟨cs,_,hc,hr,fun c hc=>mem_cons_of_mem _ (List.mem_flatten.2 ⟨_,getElem_mem _,hc⟩)⟩
theorem Lb{α:Type}[Rd α]{c:List Value}{x y:α}(h:Ky (y=x))(g:Ky (Rd.rd f w c y)):Rd.rd f w c x:=h.o▸g.o
theorem Lt{α:Type}[Rd α]{c:List Value}{x y:α}(h:y=x)(g:Rd.rd f w c x):Ky (Rd.rd f w c y):=Kz (h▸g)
theorem SlR.el{α:Type}[Rd α]{xs:List α}(h:SlR f w (.slice (some ⟨b,o,none⟩) n m) xs)(B:k<xs.length):∃(c:Array Value) (q:List Nat),jP w b (o+k*Rd.n α) c.toList∧Rd.rd q w c.toList xs[k]:=by
 obtain⟨cs,q,h1,D,-⟩:=h.at B;exact⟨cs.toArray,q,h1,D⟩
theorem SlR.fQ(h:SlR fp w (.slice (some ⟨b,off,none⟩) len cap) xs)(hi:i<xs.length):
  w.cell? ⟨b,off+i,none⟩=some (.int .i64 xs[i])∧(Lit.int .i64 xs[i]).wf=true:=by
 obtain⟨cs,fq,hc,⟨rfl,rfl,hw⟩,_⟩:=h.at hi;exact⟨by simpa[Rd.n] using hc 0 _ rfl,hw⟩
theorem SlR.Eu(h:SlR fp w v xs)(hi:i<xs.length):(Lit.int .i64 xs[i]).wf=true:=by
 obtain⟨a,cap,rfl,_,_,q⟩:=h.open;obtain⟨b,off,rfl,_⟩:=q i hi;exact(h.fQ hi).2
theorem SlR.jl{xs:List ByteArray}(h:SlR fp w (.slice (some ⟨b,off,none⟩) len cap) xs)(hi:i<xs.length):
  w.cell? ⟨b,off+i,none⟩=some (.string xs[i])∧xs[i].size≤maxLen:=by
 obtain⟨cs,fq,hc,⟨rfl,rfl,hw⟩,_⟩:=h.at hi;exact⟨by simpa[Rd.n] using hc 0 _ rfl,hw⟩
theorem SlR.J2{α:Type}[Rd α]{xs:List (List α)}(h:SlR fp w (.slice (some ⟨b,off,none⟩) len cap) xs)(hi:i<xs.length):
  ∃v fq,w.cell? ⟨b,off+i,none⟩=some v∧SlR fq w v xs[i]∧(∀c∈fq,c∈fp):=by
 obtain⟨cs,fq,hc,⟨v,rfl,hw⟩,hs⟩:=h.at hi;exact⟨v,fq,by simpa[Rd.n] using hc 0 _ rfl,hw,hs⟩
theorem SlR.nil{α:Type}[Rd α](w:World):SlR (α:=α) [] w (.slice none 0 0) []:=⟨none,0,rfl,le_refl _,by simp,.inl ⟨rfl,rfl⟩⟩
theorem mF{fr:Nat×Nat}(hb:w.heap[b]?=some (.cells C t fr))(h:∀j v,cs[j]?=some v→C[off+j]?=some v):jP w b off cs:=by
 intro j v q
 rw[cell_of_row w b (off+j) C t fr hb];exact h j v q
theorem jB(hb:w.heap[b]?=some (.cells C t))(o:Nat):w.frozen? ⟨b,o,none⟩=false:=by
 unfold World.frozen?;rw[hb];simp
theorem SlR.flat{α:Type}[Rd α]{xs:List α}(hb:w.heap[b]?=some (.cells C t))(hn:Rd.n α=1)
  (J:∀i (h:i<xs.length),∃c,C[i]?=some c∧Rd.rd [] w [c] xs[i]) (hcap:xs.length≤cap) (hr:xs.length≤bn):
  ∃fp,SlR fp w (.slice (some ⟨b,0,none⟩) xs.length cap) xs∧(fp=[]∨fp=[b]):=by
 by_cases B:xs=[]
 ·subst B
  exact⟨[],⟨_,_,rfl,hcap,hr,.inl ⟨rfl,rfl⟩⟩,.inl rfl⟩
 ·have D:∀n:Nat,(List.replicate n ([]:List Nat)).flatten=[]:=by intro n;simp
  refine⟨[b],⟨_,_,rfl,hcap,hr,.inr ⟨b,0,List.replicate xs.length [],B,rfl,by rw[D],by simp,fun j _=>jB hb _,fun i hi K=>?_⟩⟩,.inr rfl⟩;obtain⟨c,hc,I⟩:=J i hi;refine⟨[c],mF hb fun j v q=>?_,by simpa using I⟩
  cases j with
  |zero=>simp at q;subst q;simpa[hn] using hc
  |succ j=>simp at q
def aY(w:World)(fp:List Nat):Prop:=fp.Nodup∧∀b∈fp,w.heap.size≤b
theorem aa{a b:Bool}(h:a=b):Ending.returned (.bool a)=Ending.returned (.bool b):=by rw[h]
theorem aC{a b:Int}(h:a=b):Ending.returned (.int .i64 a)=Ending.returned (.int .i64 b):=by rw[h]
def idxOf{α:Type}(p:α→Bool):List α→Int
 |[]=>-1
 |x::xs=>if p x then 0 else let r:=idxOf p xs;if r<0 then -1 else r+1
theorem qU{α:Type}(p:α→Bool)(xs:List α):-1≤idxOf p xs:=by
 induction xs with
 |nil=>simp[idxOf]
 |cons x xs h=>
  simp only[idxOf]
  split
  ·omega
  ·split<;>omega
theorem iH{α:Type}{p:α→Bool}{xs:List α}(hk:k<xs.length)(q:p xs[k]=true)(h:∀j (h:j<xs.length),j<k→p xs[j]=false):idxOf p xs=k:=by
 induction xs generalizing k with
 |nil=>simp at hk
 |cons x xs D=>
  cases k with
  |zero=>simp at q;simp[idxOf,q]
  |succ k=>
   have B:=h 0 (by simp) (by omega);simp at B
   have:=D (k:=k) (by simpa using hk) (by simpa using q) (fun j J I=>by
    have h1:=h (j+1) (by simp;omega) (by omega)
    rwa [List.getElem_cons_succ] at h1)
   simp[idxOf,B,this];omega
theorem gu{α:Type}{p:α→Bool}{xs:List α}(h:∀j (h:j<xs.length),p xs[j]=false):idxOf p xs= -1:=by
 induction xs with
 |nil=>rfl
 |cons x xs B=>
  have q:=h 0 (by simp);simp at q
  have:=B (fun j D=>by
   have h1:=h (j+1) (by simp;omega)
   rwa [List.getElem_cons_succ] at h1)
  simp[idxOf,q,this]
theorem FW{y:Int}(hk:k<xs.length)(h:(xs[k]==y)=true):xs.any (fun z=>y==z)=true:=by
 rw[List.any_eq_true];exact⟨xs[k],getElem_mem hk,by simp at h ⊢;exact h.symm⟩
theorem Cr{y:Int}(h:∀j (h:j<xs.length),(xs[j]==y)=false):xs.any (fun z=>y==z)=false:=by
 rw[List.any_eq_false];intro z hz
 obtain⟨j,q,rfl⟩:=List.mem_iff_getElem.1 hz;have:=h j q;simp at this ⊢;exact fun e=>this e.symm
theorem iW{α:Type}{p:α→Bool}{xs:List α}:0≤idxOf p xs↔xs.any p=true:=by
 induction xs with
 |nil=>simp[idxOf]
 |cons x xs q=>
  simp only[idxOf,List.any_cons,Bool.or_eq_true,←q]
  by_cases h:p x=true
  ·simp[h]
  ·have:=qU p xs
   simp only[h,Bool.false_eq_true,if_false,false_or]
   split<;>omega
theorem aY.of_flat(h:fp=[]∨fp=[b])(hb:w.heap.size≤b):aY w fp:=by
 rcases h with rfl|rfl
 ·exact⟨by simp,by simp⟩
 ·exact⟨by simp,by simpa using hb⟩
theorem aY.cons(hb:w.heap.size≤b):aY w [b]:=⟨by simp,by simpa using hb⟩
theorem aY.append(h:aY w fp)(hw:w.heap.size≤w1.heap.size)(q:∀b∈fp,b<w1.heap.size)(k:aY w1 fq):aY w (fp++fq):=by
 refine⟨List.nodup_append.2 ⟨h.1,k.1,fun a B b hb e=>?_⟩,fun b hb=>?_⟩
 ·have:=q a B;have:=k.2 b hb;omega
 ·rcases List.mem_append.1 hb with hb|hb
  ·exact h.2 b hb
  ·have:=k.2 b hb;omega
theorem aY.sub(h:aY w fp)(hs:fq.Sublist fp):aY w fq:=⟨h.1.sublist hs,fun b hb=>h.2 b (hs.subset hb)⟩
theorem aY.of_le(h:aY w1 fp)(hw:w.heap.size≤w1.heap.size):aY w fp:=⟨h.1,fun b hb=>le_trans hw (h.2 b hb)⟩
theorem aY.nil(w:World):aY w []:=⟨by simp,by simp⟩
theorem Ea{o o':Obj}{x y:Ext}(h:w.heap.size∉fp)(q:∀c∈fp,c<((w.alloc o).ext x).heap.size):
  fB fp ((w.alloc o).ext x) ((w.alloc o').ext (x.comp y)):=by
 intro c hc
 rw[qZ (o:=o) _ (fun e=>h (e▸hc)),←iV,mW _ _ (q c hc)]
structure iF{α:Type}[Rd α](w0:World)(b:Nat)(w:World)(C:Array Value)(k:Nat)(fps:List (List Nat))(xs:List α):Prop where
 len:fps.length=k
 le:k≤xs.length
 rows:∀i (_:i<k) (h1:i<xs.length) (h2:i<fps.length),∃cs,(∀j v,cs[j]?=some v→C[i*Rd.n α+j]?=some v)∧Rd.rd fps[i] w cs xs[i]
 fresh:aY w0 (b::fps.flatten)
 lt:∀c∈b::fps.flatten,c<w.heap.size
theorem iF.start{α:Type}[Rd α](C:Array Value)(xs:List α)(hb:w0.heap.size≤b)(q:b<w.heap.size):iF w0 b w C 0 [] xs:=
 ⟨rfl,Nat.zero_le _,fun i h=>absurd h (Nat.not_lt_zero _),by simpa using aY.cons hb,by simpa using q⟩
theorem iF.step{α:Type}[Rd α]{q:World}{C':Array Value}{xs:List α}(h:iF w0 b w C k fps xs)(hk:k<xs.length)
  (hs:fB fps.flatten w q) (hz:w.heap.size≤w1.heap.size) (X:w0.heap.size≤w.heap.size) (Y:w1.heap.size≤q.heap.size)
  (hr:Rd.rd fq q cs xs[k]) (T:aY w1 fq) (hold:∀j,j<k*Rd.n α→C'[j]?=C[j]?) (hnew:∀j v,cs[j]?=some v→C'[k*Rd.n α+j]?=some v):
  iF w0 b q C' (k+1) (fps++[fq]) xs:=by
 obtain⟨h1,h2,U,V,I⟩:=h;refine⟨by simp[h1],hk,fun i hi J Z=>?_,?_,?_⟩
 ·by_cases B:i<k
  ·obtain⟨K,hc,D⟩:=U i B J (by omega)
   refine⟨K,fun j v O=>?_,?_⟩
   ·have ae:j<Rd.n α:=by
     have:=Rd.len D;have:=(List.getElem?_eq_some_iff.1 O).1;omega
    have hm:i*Rd.n α+j<k*Rd.n α:=by
     have:(i+1)*Rd.n α≤k*Rd.n α:=Nat.mul_le_mul_right _ B;rw[Nat.add_mul] at this;omega
    rw[hold _ hm];exact hc j v O
   ·rw[List.getElem_append_left (by omega)]
    exact Rd.mono (hs.sub fun c hc=>List.mem_flatten.2 ⟨_,getElem_mem _,hc⟩) D
  ·obtain rfl:i=k:=by omega
   refine⟨cs,hnew,?_⟩;rw[List.getElem_append_right (by omega)];simpa[h1] using hr
 ·have:=V.append (fq:=fq) (w1:=w1) (by omega) (fun c hc=>lt_of_lt_of_le (I c hc) hz) T
  simpa using this
 ·intro c hc
  rw[List.flatten_append] at hc;simp only[List.flatten_cons,List.flatten_nil,List.append_nil,List.mem_cons,mem_append] at hc;rcases hc with rfl|hc|hc
  ·exact lt_of_lt_of_le (I c (by simp)) (by omega)
  ·exact lt_of_lt_of_le (I c (mem_cons_of_mem _ hc)) (by omega)
  ·exact Rd.lt hr c hc
theorem iF.lT{α:Type}[Rd α]{x y:Ext}{C':Array Value}{xs:List α}(h:iF w w.heap.size ((w.alloc (.cells C t)).ext x) C k fps xs)(hk:k<xs.length)
  (hr:Rd.rd fq (((w.alloc (.cells C t)).ext x).ext y) cs xs[k]) (q:aY ((w.alloc (.cells C t)).ext x) fq)
  (hold:∀j,j<k*Rd.n α→C'[j]?=C[j]?) (hnew:∀j v,cs[j]?=some v→C'[k*Rd.n α+j]?=some v):
  iF w w.heap.size ((w.alloc (.cells C' t)).ext (x.comp y)) C' (k+1) (fps++[fq]) xs:=by
 have B:=h.fresh.1;have D:=h.lt;have I:w.heap.size∉fps.flatten:=(List.nodup_cons.1 B).1;refine h.step (w1:=(w.alloc (.cells C t)).ext x) hk (Ea I fun c hc=>D c (mem_cons_of_mem _ hc)) (le_refl _) (by simp;omega) (by simp[Ext.comp]) ?_ q hold hnew;rw[iV] at hr;refine Rd.mono (fun c hc=>qZ _ fun e=>?_) hr;have:=q.2 c hc;simp at this;omega
theorem iF.keep{α:Type}[Rd α]{q:World}{xs:List α}(h:iF w0 b w C k fps xs)
  (hs:fB fps.flatten w q) (hz:w.heap.size≤q.heap.size):iF w0 b q C k fps xs:=by
 obtain⟨h1,I,J,K,O⟩:=h;refine⟨h1,I,fun i hi B D=>?_,K,fun c hc=>lt_of_lt_of_le (O c hc) hz⟩;obtain⟨cs,hc,hr⟩:=J i hi B D;exact⟨cs,hc,Rd.mono (hs.sub fun c hc=>List.mem_flatten.2 ⟨_,getElem_mem _,hc⟩) hr⟩
theorem iF.done{α:Type}[Rd α]{xs:List α}(h:iF w0 b w C xs.length fps xs)
  (hb:w.heap[b]?=some (.cells C t)) (hcap:xs.length≤cap) (hr:xs.length≤bn):
  ∃fp,SlR fp w (.slice (some ⟨b,0,none⟩) xs.length cap) xs∧aY w0 fp:=by
 obtain⟨h1,O,I,J,T⟩:=h
 by_cases q:xs=[]
 ·subst q
  exact⟨[],⟨_,_,rfl,hcap,hr,.inl ⟨rfl,rfl⟩⟩,aY.nil _⟩
 ·refine⟨b::fps.flatten,⟨_,_,rfl,hcap,hr,.inr ⟨b,0,fps,q,rfl,rfl,h1,fun j _=>jB hb _,fun i hi B=>?_⟩⟩,J⟩
  obtain⟨cs,hc,D⟩:=I i hi hi B;exact⟨cs,mF hb (fun j v K=>by rw[Nat.zero_add];exact hc j v K),D⟩
instance {α β:Type} [Rd α] [Rd β]:Rd (α×β) where
 n:=Rd.n α+Rd.n β
 pos:=by have:=Rd.pos (α:=α);omega
 rd fp w cs x:=∃c1 c2 f1 f2,cs=c1++c2∧fp=f1++f2∧Rd.rd f1 w c1 x.1∧Rd.rd f2 w c2 x.2
 len h:=by obtain⟨c1,c2,f1,f2,rfl,rfl,h1,h2⟩:=h;simp[Rd.len h1,Rd.len h2]
 lt h:=by
  obtain⟨c1,c2,f1,f2,rfl,rfl,h1,h2⟩:=h;intro b hb
  rcases List.mem_append.1 hb with hb|hb
  ·exact Rd.lt h1 b hb
  ·exact Rd.lt h2 b hb
 mono hw h:=by
  obtain⟨c1,c2,f1,f2,rfl,rfl,h1,h2⟩:=h;exact⟨c1,c2,f1,f2,rfl,rfl,Rd.mono (hw.sub fun b hb=>List.mem_append_left _ hb) h1,Rd.mono (hw.sub fun b hb=>List.mem_append_right _ hb) h2⟩
 one h u hu:=by
  obtain⟨c1,c2,f1,f2,rfl,rfl,h1,h2⟩:=h;rcases List.mem_append.1 hu with hu|hu
  ·exact Rd.one h1 u hu
  ·exact Rd.one h2 u hu
def lh(α:Type)[Rd α](P:Program)(t:TypeId):Prop:=
 P.cellsOf t=Rd.n α∧∀{H:Type} (enc:TypeId×Value→H) (w:World) (fuel:Nat) (cs:List Value) (d:DataW H) (h:List MemPlace),
  DataW.trod enc P w 0 (fun _=>true) true fuel t cs=some (d,h)→(∀n∈d.weights P t,n≤reachBytes)→w.noneFrozen h→∃fp x,Rd.rd (α:=α) fp w cs x
theorem gN{P:Program}(ht:P.underlying t=some (.int .i64))(hc:P.cellsOf t=1):lh Int P t:=
 ⟨hc,fun enc w fuel cs d q h _ _=>by
  obtain⟨n,rfl,_,hw⟩:=DataW.trod_int ht h;exact⟨[],n,rfl,rfl,hw⟩⟩
theorem wR{P:Program}(ht:P.underlying t=some .bool)(hc:P.cellsOf t=1):lh Bool P t:=
 ⟨hc,fun enc w fuel cs d q h _ _=>by
  obtain⟨n,rfl,_⟩:=DataW.trod_bool ht h;exact⟨[],n,rfl,rfl⟩⟩
theorem eP{P:Program}(ht:P.underlying t=some .string)(hc:P.cellsOf t=1):lh ByteArray P t:=
 ⟨hc,fun enc w fuel cs d q h _ _=>by
  obtain⟨s,rfl,_,hw⟩:=DataW.trod_string ht h;exact⟨[],s,rfl,rfl,hw⟩⟩
theorem lL{H:Type}{P:Program}{e:TypeId}:∀{l:List (DataW H)} {d:DataW H},d∈l→∀n∈d.weights P e,n∈DataW.weightsAll P e l
 |a::l,d,h,n,hn=>by
  simp only[DataW.weightsAll,mem_append];rcases List.mem_cons.1 h with rfl|h
  ·exact .inl hn
  ·exact .inr (lL h n hn)
 |[],_,h,_,_=>by simp at h
theorem BO{base:Nat}{a:Addr}(h:w.cells? base a n=some cs)(hn:0<n):∃b off,a=⟨b,off,none⟩∧jP w b off cs∧cs.length=n:=by
 obtain⟨_,B,D⟩:=World.cells?_some h;have q:=D 0 hn;obtain⟨b,off,sp⟩:=a;have K:(⟨b,off,sp⟩:Addr).add 0=⟨b,off,sp⟩:=by simp[Addr.add]
 rw[K] at q
 have hs:sp=none:=by
  cases sp with
  |none=>rfl
  |some s=>
   have:w.cell? ⟨b,off,some s⟩=none:=by
    unfold World.cell?
    split<;>simp
   rw[this] at q;have:=List.getElem?_eq_none_iff.1 q.symm;omega
 subst hs;refine⟨b,off,rfl,fun j v I=>?_,B⟩;have J:j<n:=by rw[←B];exact(List.getElem?_eq_some_iff.1 I).1
 have:=D j J;rw[I] at this
 have e:(⟨b,off,none⟩:Addr).add j=⟨b,off+j,none⟩:=by
  unfold Addr.add
  split
  ·rename_i e;subst e;rfl
  ·rfl
 rwa [e] at this
theorem kN{α:Type}[Rd α]{P:Program}{e:TypeId}(ht:P.underlying t=some (.slice e))(hc:P.cellsOf t=1)(he:lh α P e)(Y:decide (1≤P.bytesOf e)=true):lh (List α) P t:=by
 have hb:=of_decide_eq_true Y;obtain⟨hn,he⟩:=he;refine⟨hc,fun{H} enc w fuel cs d ps h V hfz=>?_⟩;rcases DataW.trod_slice ht h with⟨rfl,K⟩|⟨a,len,cap,elems,rest,n,_,rfl,K,_,Z,hm,hlen,ae,ah,_⟩
 ·exact⟨[],[],_,rfl,SlR.nil w⟩
 ·have ak:=(ah rfl).1
  simp only[Prod.mk.injEq] at K;obtain⟨K,ai⟩:=K;subst K ai
  have O:cap≤bn:=by
   have:=V ((elems.length+rest.length)*P.bytesOf e) (by simp[DataW.weights,ht]);have X:elems.length+rest.length=cap:=by omega
   rw[X] at this;have h2:cap*1≤cap*P.bytesOf e:=Nat.mul_le_mul_left _ hb;have h3:reachBytes=bn:=by decide
   omega
  have each:∀i,i<len→∃b off q fq x,a.add (i*P.cellsOf e)=⟨b,off,none⟩∧jP w b off q∧Rd.rd (α:=α) fq w q x:=by
   intro i hi
   have hx:=ae i hi;have I:i<elems.length:=by omega
   rw[List.getElem?_eq_getElem I] at hx;obtain⟨q,h1,h2⟩:=Option.bind_eq_some_iff.1 hx;obtain⟨b,off,T,D,_⟩:=BO h1 (by rw[hn];exact Rd.pos)
   obtain⟨fq,x,hr⟩:=he enc w n q (elems[i]).1 (elems[i]).2 h2 (fun k hk=>V k (by
    simp only[DataW.weights,ht,List.mem_cons,mem_append];exact .inr (.inl (lL (List.mem_map_of_mem (getElem_mem I)) k hk))))
    (fun b o hm=>hfz b o (List.mem_append_right _ (List.mem_flatMap.2 ⟨_,List.mem_append_left _ (getElem_mem I),hm⟩)))
   exact⟨b,off,q,fq,x,T,D,hr⟩
  by_cases h0:len=0
  ·subst h0
   exact⟨[],[],_,rfl,some a,cap,rfl,by simp,by simp,.inl ⟨rfl,rfl⟩⟩
  ·obtain⟨J,B,_,_,x0,aj,_,_⟩:=each 0 (by omega)
   have ea:a=⟨J,B,none⟩:=by simpa[Addr.add] using aj
   subst ea
   have U:∀i,∃y:List Nat×α,i<len→∃q,jP w J (B+i*Rd.n α) q∧Rd.rd y.1 w q y.2:=by
    intro i
    by_cases hi:i<len
    ·obtain⟨b,off,q,fq,x,T,D,hr⟩:=each i hi
     refine⟨(fq,x),fun _=>⟨q,?_,hr⟩⟩
     have e:(⟨J,B,none⟩:Addr).add (i*P.cellsOf e)=⟨J,B+i*P.cellsOf e,none⟩:=by
      unfold Addr.add
      split
      ·rename_i e;rw[e];rfl
      ·rfl
     rw[e] at T;injection T with X e2;subst X e2
     rwa [hn] at D
    ·exact⟨([],x0),fun h=>absurd h hi⟩
   obtain⟨f,hf⟩:=Classical.axiomOfChoice U;refine⟨_,(List.range len).map fun i=>(f i).2,_,rfl,some ⟨J,B,none⟩,cap,by simp,by simpa using Z,(by have this:len≤bn:=le_trans Z O;simpa using this),.inr ⟨J,B,(List.range len).map fun i=>(f i).1,by simp[h0],rfl,rfl,by simp,fun j hj=>hfz _ _ (List.mem_append_left _ ?_),fun i hi I=>?_⟩⟩
   ·simp only[List.length_map,List.length_range] at hj
    refine List.mem_map.2 ⟨j,List.mem_range.2 ?_,rfl⟩
    rw[hn,hlen];exact lt_of_lt_of_le hj (Nat.mul_le_mul_right _ (by omega))
   ·simp only[List.length_map,List.length_range] at hi
    obtain⟨q,D,hr⟩:=hf i hi;exact⟨q,D,by simpa using hr⟩
structure Seg(α:Type)[Rd α](P:Program)(off:Nat)(fs:List Field):Prop where
 o:∀(H:Type) (enc:TypeId×Value→H) (w:World) (cs:List Value),cs.length=off+Rd.n α→
  (∀f∈fs,∃fuel d ps,DataW.trod enc P w 0 (fun _=>true) true fuel f.type ((cs.drop f.offset).take (P.cellsOf f.type))=some (d,ps)∧(∀n∈d.weights P f.type,n≤reachBytes)∧w.noneFrozen ps)→
  ∃fp x,Rd.rd (α:=α) fp w (cs.drop off) x
theorem oZ{α:Type}[Rd α]{P:Program}{f:Field}(q:lh α P f.type)(B:f.offset=off):Seg α P off [f]:=by
 refine⟨fun H enc w cs J D=>?_⟩;obtain⟨fuel,d,I,h,hw,hz⟩:=D f (by simp);rw[B,q.1,List.take_of_length_le (by simp;omega)] at h;exact q.2 enc w fuel _ d I h hw hz
theorem jq{α β:Type}[Rd α][Rd β]{P:Program}{f:Field}{q:List Field}(B:lh α P f.type)(I:f.offset=off)(hs:Seg β P (off+Rd.n α) q):Seg (α×β) P off (f::q):=by
 refine⟨fun H enc w cs T D=>?_⟩;obtain⟨fuel,d,J,h,hw,hz⟩:=D f (by simp);rw[I,B.1] at h;obtain⟨f1,x,h1⟩:=B.2 enc w fuel _ d J h hw hz;have O:Rd.n (α×β)=Rd.n α+Rd.n β:=rfl;obtain⟨f2,y,K⟩:=hs.o H enc w cs (by omega) (fun g hg=>D g (mem_cons_of_mem _ hg));refine⟨f1++f2,(x,y),_,_,f1,f2,?_,rfl,h1,K⟩;rw[←List.drop_drop,List.take_append_drop]
theorem jD{α:Type}[Rd α]{P:Program}{q:Array Field}(J:Nat)(ht:P.underlying t=some (.struct q))(hn:Rd.n α=J)(K:P.cellsOf t=J)(hs:Seg α P 0 q.toList):lh α P t:=by
 have hc:P.cellsOf t=Rd.n α:=K.trans hn.symm;refine⟨hc,fun{H} enc w fuel cs d ps h hwt hfz=>?_⟩;obtain⟨xs,n,_,D,V,hlen,T⟩:=DataW.trod_struct ht h;simp only[Prod.mk.injEq] at D;obtain⟨D,O⟩:=D;subst D O
 have:=hs.o H enc w cs (by omega) (fun f U=>by
  obtain⟨i,hi,rfl⟩:=List.mem_iff_getElem.1 U;have I:i<q.size:=by simpa using hi
  have B:i<xs.length:=by omega
  have h1:=T i q[i] (by simp[I]);rw[List.getElem?_eq_getElem B] at h1;refine⟨n,(xs[i]).1,(xs[i]).2,by simpa using h1,fun k hk=>hwt k ?_,fun b o hm=>hfz b o (List.mem_flatMap.2 ⟨_,getElem_mem B,hm⟩)⟩;simp only[DataW.weights,ht];exact DataW.weights_mem_each (j:=i) (t:=q[i].type) (d:=(xs[i]).1) (by simp[I]) (by simp[List.getElem?_map,List.getElem?_eq_getElem B]) k (by simpa using hk))
 simpa using this
end Go.Proofs.YtleafadpfeibfaaGreat
