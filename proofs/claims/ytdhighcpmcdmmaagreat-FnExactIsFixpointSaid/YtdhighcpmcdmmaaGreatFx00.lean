/- Contracts and laws towards ReadsOf, part 1 of 54. No condition. -/
import Derived.Test.YtdhighcpmcdmmaaGreatProg
import Derived.WalkKit
import Derived.OpenShut
import Derived.Deep.QuietTactic
import Derived.BigQuiet
import Derived.Lib.Hide
import Derived.Deep.DeepFit
import Derived.WalkSmall
import Derived.ProofKit
import Derived.SizedLaws
import Derived.ChangeArms
import Derived.Deep.Slices
set_option maxHeartbeats 32000000
set_option maxRecDepth 10000
set_option linter.unusedVariables false
set_option linter.unusedSimpArgs false
namespace Go.Proofs.YtdhighcpmcdmmaaGreat
open Go.RowKit
open _root_.List (getElem_mem mem_append mem_cons_of_mem)
open _root_.Nat (le_refl le_trans lt_of_lt_of_le)
open _root_.Array (getElem?_append)
variable{w w' a w0 c w1:World}{b n m0 m1 m2 m3 m4 off m5 m6 k m7 cap m8 i o m9 len m m10 m11:Nat}{fp fq f:List Nat}{v:Value}{t:TypeId}{C:Array Value}{cs:List Value}{fps:List (List Nat)}{xs:List Int}
structure Ky(p:Prop):Prop where
  o:p
theorem Kz{p:Prop}(h:p):Ky p:=⟨h⟩
theorem toL{a b:List Value}(h:a.toArray=b.toArray):a=b:=Array.toList_inj.2 h
theorem nm{α:Type}(x:α):∃y,y=x:=⟨x,rfl⟩
theorem zI1(k:Nat)(h:-9223372036854775808≤(k:Int)+1∧(k:Int)+1≤9223372036854775807):IntKind.i64.wrap ((k:Int)+1)=(k:Int)+1:=IntWalk.i64_in _ h
structure Ext where
 objs:Array Obj
 drawn:Nat
instance:Inhabited Ext:=⟨⟨#[],0⟩⟩
def _root_.Go.World.ext(w:World)(x:Ext):World:={w with heap:=w.heap++x.objs,drawn:=w.drawn+x.drawn}
section
variable(w:World)(x y:Ext)
@[simp,go_sem] theorem size_ext:(w.ext x).heap.size=w.heap.size+x.objs.size:=by simp[World.ext]
@[simp,go_sem] theorem JX:(w.ext x).drawn=w.drawn+x.drawn:=rfl
theorem mW(h:b<w.heap.size):(w.ext x).heap[b]?=w.heap[b]?:=by
 simp[World.ext,getElem?_append,h]
@[simp,go_sem] theorem Fw {s:Option Nat} (h:b<w.heap.size):(w.ext x).cell? ⟨b,o,s⟩=w.cell? ⟨b,o,s⟩:=
 World.cell?_of_block (mW w x h)
@[simp,go_sem] theorem Jo {s:Option Nat} (h:b<w.heap.size):(w.ext x).frozen? ⟨b,o,s⟩=w.frozen? ⟨b,o,s⟩:=
 World.frozen?_of_block (mW w x h)
@[simp,go_sem] theorem Jw (h:b<w.heap.size):(b<w.heap.size+x.objs.size)=True:=by
 simp;omega
@[simp,go_sem] theorem Jt (h:b<n):(b<n+1)=True:=by
 simp;omega
@[simp,go_sem] theorem Jl (h:b<n):(b<n+m)=True:=by
 simp;omega
@[go_sem] theorem Jz {s:Option Nat} (h:b<w.heap.size):(w.ext x).setCell ⟨b,o,s⟩ v=(w.setCell ⟨b,o,s⟩ v).ext x:=by
 unfold World.setCell World.ext
 congr 1
 apply Array.ext_getElem?;intro k
 simp only[Array.getElem?_modify,getElem?_append,Array.size_modify]
 by_cases q:b=k
 ·subst q
  simp[h]
 ·simp[q]
@[simp,go_sem] theorem I5 (h:b<n):(b<n+m0+m1)=True:=by
 simp;omega
@[simp,go_sem] theorem Iw (h:b<n):(b<n+m0+m1+m2)=True:=by
 simp;omega
@[simp,go_sem] theorem Jd (h:b<n):(b<n+m0+m1+m2+m3)=True:=by
 simp;omega
@[simp,go_sem] theorem IQ (h:b<n):(b<n+m0+m1+m2+m3+m4)=True:=by
 simp;omega
@[simp,go_sem] theorem IG (h:b<n):(b<n+m0+m1+m2+m3+m4+m5)=True:=by
 simp;omega
@[simp,go_sem] theorem Ji (h:b<n):(b<n+m0+m1+m2+m3+m4+m5+m6)=True:=by
 simp;omega
@[simp,go_sem] theorem IM (h:b<n):(b<n+m0+m1+m2+m3+m4+m5+m6+m7)=True:=by
 simp;omega
@[simp,go_sem] theorem I7 (h:b<n):(b<n+m0+m1+m2+m3+m4+m5+m6+m7+m8)=True:=by
 simp;omega
@[simp,go_sem] theorem Ik (h:b<n):(b<n+m0+m1+m2+m3+m4+m5+m6+m7+m8+m9)=True:=by
 simp;omega
@[simp,go_sem] theorem Ii (h:b<n):(b<n+m0+m1+m2+m3+m4+m5+m6+m7+m8+m9+m10)=True:=by
 simp;omega
@[simp,go_sem] theorem Ij (h:b<n):(b<n+m0+m1+m2+m3+m4+m5+m6+m7+m8+m9+m10+m11)=True:=by
 simp;omega
@[simp,go_sem] theorem Im {q:Nat} (h:b<n):(b<n+m0+m1+m2+m3+m4+m5+m6+m7+m8+m9+m10+m11+q)=True:=by
 simp;omega
@[simp,go_sem] theorem Il {q s:Nat} (h:b<n):(b<n+m0+m1+m2+m3+m4+m5+m6+m7+m8+m9+m10+m11+q+s)=True:=by
 simp;omega
theorem Fz:Below w.heap.size w (w.ext x):=
 ⟨rfl,rfl,rfl,by simp,fun _ h=>mW w x h⟩
end
def Gr(w w':World):Prop:=∃x,w'=w.ext x
abbrev Qz(n:FuncId)(a:Array Value)(w:World)(v:Value):Prop:=Calls Tryz.prog n a w fun e w'=>e=.returned v∧Gr w w'
theorem Gr.of_below(h:Below w.heap.size w w')(H:w.drawn≤w'.drawn):Gr w w':=by
 refine⟨⟨w'.heap.extract w.heap.size w'.heap.size,w'.drawn - w.drawn⟩,?_⟩;obtain⟨s,B,D,I,E⟩:=h
 cases w;cases w'
 simp only[World.ext,World.mk.injEq] at*;refine⟨?_,B,by omega,s,D⟩;apply Array.ext_getElem?;intro i
 rw[getElem?_append]
 split
 ·rename_i q;exact E i q
 ·rename_i q
  rw[Array.getElem?_extract]
  split
  ·congr 1;omega
  ·exact Array.getElem?_eq_none (by omega)
theorem Gr.below(h:Gr w w'):Below w.heap.size w w':=by
 obtain⟨x,rfl⟩:=h;exact Fz w x
theorem Gr.drawn(h:Gr w w'):w.drawn≤w'.drawn:=by
 obtain⟨x,rfl⟩:=h;simp
theorem Gr.refl(w:World):Gr w w:=⟨⟨#[],0⟩,by simp[World.ext]⟩
theorem Gr.trans{b:World}(h:Gr a b)(k:Gr b c):Gr a c:=
 Gr.of_below (h.below.trans (k.below.mono h.below.size)) (le_trans h.drawn k.drawn)
theorem Gr.ext{b:World}(h:Gr a b)(x:Ext):Gr a (b.ext x):=h.trans ⟨x,rfl⟩
theorem Gr.alloc{b:World}(h:Gr a b)(o:Obj):Gr a (b.alloc o):=
 h.trans (Gr.of_below ((Below.refl _ _).alloc (le_refl _) o) (le_refl _))
theorem Gr.drew{b:World}(h:Gr a b):Gr a b.drew:=
 h.trans (Gr.of_below ((Below.refl _ _).drew) (Nat.le_succ _))
theorem gd{b:World}(h:Gr a b:=by repeat(first|exact Gr.refl _|apply Gr.ext|apply Gr.alloc|apply Gr.drew)):Gr a b:=h
theorem tg{b:World}(h:Ky (Gr a b))(k:Gr b c:=by exact gd):Gr a c:=h.o.trans k
theorem ga{b:World}(h:Gr a b:=by first|assumption|exact Gr.drew (Gr.refl _)|(repeat(first|assumption|exact Gr.refl _|apply Gr.ext|apply Gr.alloc|apply Gr.drew))):Gr a b:=h
theorem gb{X B:World}(q:X=B)(h:Gr w X:=by exact gd):Gr w B:=q▸h
theorem szB{X B:World}(q:X=B)(h:X.heap.size=n:=by first|(simp;done)|(simp;omega)):B.heap.size=n:=q▸h
theorem Gr.setCell{b:World}(h:Gr a b){p:Addr}(q:a.heap.size≤p.block)(v:Value):Gr a (b.setCell p v):=
 Gr.of_below (h.below.setCell q v) h.drawn
theorem Gr.size(h:Gr w w'):w.heap.size≤w'.heap.size:=h.below.size
def Ext.comp(x y:Ext):Ext:=⟨x.objs++y.objs,x.drawn+y.drawn⟩
theorem iV(w:World)(x y:Ext):(w.ext x).ext y=w.ext (x.comp y):=by
 simp[World.ext,Ext.comp,Array.append_assoc,Nat.add_assoc]
theorem lX(w:World):w.ext ⟨#[],0⟩=w:=by simp[World.ext]
theorem qZ{o o':Obj}(x:Ext){c:Nat}(h:c≠w.heap.size):((w.alloc o').ext x).heap[c]?=((w.alloc o).ext x).heap[c]?:=by
 simp only[World.ext,World.alloc,getElem?_append,Array.getElem?_push,Array.size_push];simp[h]
theorem iD(o:Obj)(x:Ext):((w.alloc o).ext x).heap[w.heap.size]?=some o:=by
 rw[mW _ _ (by simp)];exact heap_alloc_new w o
theorem L8{P:Program}{id:Nat}{Q:Exit→Act→World→Prop}{a:Act}{l:List Oper}(hm:P.follows .mixedOrders=true)(q:Region.lexB .any l.toArray=true)
  (h:wpQuiet P l.toArray (fun w'=>∃x,w'=w.ext x) (fun s=>∀w',(∃x,w'=w.ext x)→Q .normal s w') l a):(Code.region id l.toArray true).wp P Q a w:=
 wp_region_quiet (C:=fun w'=>∃x,w'=w.ext x) hm q (Gr.drew (Gr.refl w)) (by simpa using h)
theorem wg{P:Program}{id:Nat}{Q:Exit→Act→World→Prop}{a:Act}{l:List Oper}(h:wpQuiet P l.toArray (fun w'=>∃x,w'=w.ext x) (fun q=>∀w',(∃x,w'=w.ext x)→Q .normal q w') l a)(hm:P.follows .mixedOrders=true:=by kernel_rfl)(s:Region.lexB .any l.toArray=true:=by kernel_rfl):(Code.region id l.toArray true).wp P Q a w:=L8 hm s h
theorem wq{P:Program}{ops:Array Oper}{C:World→Prop}{Q:Act→World→Prop}{a:Act}(h:∀x:Ext,Q a (w.ext x)):wpQuiet P ops C (fun q=>∀w',(∃x,w'=w.ext x)→Q q w') [] a:=fun _ ⟨x,e⟩=>e▸h x
theorem aG{P:Program}{f:FuncId}{args:Array Value}{x:Ext}
  (h:Calls P f args (w.ext x) fun e w'=>e=.returned v∧Gr (w.ext x) w'):Calls P f args (w.ext x) fun e q=>e=.returned v∧∃y,q=w.ext y:=
 h.mono fun _ _ ⟨he,hg⟩=>⟨he,((Gr.refl w).ext x).trans hg⟩
def fB(fp:List Nat)(w w':World):Prop:=∀b∈fp,w'.heap[b]?=w.heap[b]?
theorem fB.refl(fp:List Nat)(w:World):fB fp w w:=fun _ _=>rfl
theorem fB.trans{b:World}(h:fB fp a b)(k:fB fp b c):fB fp a c:=fun x q=>(k x q).trans (h x q)
theorem fB.sub(h:fB fp w w')(q:∀b∈fq,b∈fp):fB fq w w':=fun b s=>h b (q b s)
theorem fB.cell(h:fB fp w w')(q:b∈fp)(o:Nat):w'.cell? ⟨b,o,none⟩=w.cell? ⟨b,o,none⟩:=World.cell?_of_block (a:=⟨b,o,none⟩) (h b q)
theorem fB.frozen(h:fB fp w w')(q:b∈fp)(o:Nat):w'.frozen? ⟨b,o,none⟩=w.frozen? ⟨b,o,none⟩:=World.frozen?_of_block (a:=⟨b,o,none⟩) (h b q)
theorem Gr.lN(h:Gr w w')(q:∀b∈fp,b<w.heap.size):fB fp w w':=fun b s=>h.below.block b (q b s)
def jP(w:World)(b off:Nat)(cs:List Value):Prop:=∀j v,cs[j]?=some v→w.cell? ⟨b,off+j,none⟩=some v
theorem blk(h:w.cell? ⟨b,o,none⟩=some v):b<w.heap.size:=World.block_lt_of_cell? w ⟨b,o,none⟩ h
class Rd (α:Type) where
 n:Nat
 pos:0<n
 rd:List Nat→World→List Value→α→Prop
 len:∀{fp w cs x},rd fp w cs x→cs.length=n
 lt:∀{fp w cs x},rd fp w cs x→∀b∈fp,b<w.heap.size
 mono:∀{fp w w' cs x},fB fp w w'→rd fp w cs x→rd fp w' cs x
 one:∀{fp w cs x},rd fp w cs x→∀u∈cs,u.oneCell'=true
instance:Rd Int where
 n:=1
 pos:=by omega
 rd fp _ cs x:=fp=[]∧cs=[.int .i64 x]∧(Lit.int .i64 x).wf=true
 len h:=by simp[h.2.1]
 lt h:=by simp[h.1]
 mono _ h:=h
 one h u hu:=by rw[h.2.1] at hu;simp at hu;subst hu;rfl
instance:Rd Bool where
 n:=1
 pos:=by omega
 rd fp _ cs x:=fp=[]∧cs=[.bool x]
 len h:=by simp[h.2]
 lt h:=by simp[h.1]
 mono _ h:=h
 one h u hu:=by rw[h.2] at hu;simp at hu;subst hu;rfl
instance:Rd ByteArray where
 n:=1
 pos:=by omega
 rd fp _ cs x:=fp=[]∧cs=[.string x]∧x.size≤maxLen
 len h:=by simp[h.2.1]
 lt h:=by simp[h.1]
 mono _ h:=h
 one h u hu:=by rw[h.2.1] at hu;simp at hu;subst hu;rfl
def bn:Nat:=140737488351232
def IJ{α:Type}[Rd α](w:World)(b off:Nat)(fps:List (List Nat))(xs:List α):Prop:=
 fps.length=xs.length∧(∀j,j<xs.length*Rd.n α→w.frozen? ⟨b,off+j,none⟩=false)∧∀i (h:i<xs.length) (q:i<fps.length),∃cs,jP w b (off+i*Rd.n α) cs∧Rd.rd fps[i] w cs xs[i]
def SlR{α:Type}[Rd α](fp:List Nat)(w:World)(v:Value)(xs:List α):Prop:=
 ∃a cap,v=.slice a xs.length cap∧xs.length≤cap∧xs.length≤bn∧
  ((xs=[]∧fp=[])∨∃b off fps,xs≠[]∧a=some ⟨b,off,none⟩∧fp=b::fps.flatten∧IJ w b off fps xs)
theorem Jh{α:Type}[Rd α]{x:α}(hc:jP w b off cs)(h:Rd.rd fp w cs x):b<w.heap.size:=by
 have q:=Rd.len h;have s:=Rd.pos (α:=α)
 cases cs with
 |nil=>simp at q;omega
 |cons c cs=>exact blk (hc 0 c rfl)
theorem SlR.lt{α:Type}[Rd α]{xs:List α}(h:SlR fp w v xs):∀b∈fp,b<w.heap.size:=by
 obtain⟨a,cap,rfl,K,O,⟨rfl,rfl⟩|⟨b,off,fps,s,rfl,rfl,T,J,B⟩⟩:=h
 ·simp
 ·intro c hc
  have E:0<xs.length:=List.length_pos_iff.2 s;rcases List.mem_cons.1 hc with rfl|hc
  ·obtain⟨cs,hc,q⟩:=B 0 E (by omega)
   exact Jh hc q
  ·obtain⟨f,H,D⟩:=List.mem_flatten.1 hc
   obtain⟨i,I,rfl⟩:=List.mem_iff_getElem.1 H;obtain⟨cs,_,q⟩:=B i (by omega) I;exact Rd.lt q c D
theorem IJ.mono{α:Type}[Rd α]{xs:List α}(h:IJ w b off fps xs)(hw:fB (b::fps.flatten) w w'):IJ w' b off fps xs:=by
 obtain⟨D,B,E⟩:=h;refine⟨D,fun j s=>by rw[hw.frozen (by simp)];exact B j s,fun i H q=>?_⟩;obtain⟨cs,hc,I⟩:=E i H q;refine⟨cs,fun j v s=>by rw[hw.cell (by simp)];exact hc j v s,Rd.mono (hw.sub fun c hc=>?_) I⟩;exact mem_cons_of_mem _ (List.mem_flatten.2 ⟨_,getElem_mem q,hc⟩)
theorem SlR.mono{α:Type}[Rd α]{xs:List α}(hw:fB fp w w')(h:SlR fp w v xs):SlR fp w' v xs:=by
 obtain⟨a,cap,rfl,B,D,q⟩:=h;refine⟨a,cap,rfl,B,D,?_⟩;rcases q with q|⟨b,off,fps,s,rfl,rfl,E⟩
 ·exact .inl q
 ·exact .inr ⟨b,off,fps,s,rfl,rfl,E.mono hw⟩
theorem SlR.gr{α:Type}[Rd α]{xs:List α}(h:SlR fp w v xs)(hw:Gr w w'):SlR fp w' v xs:=h.mono (hw.lN h.lt)
theorem Rd.gr{α:Type}[Rd α]{x:α}(h:Rd.rd fp w cs x)(hw:Gr w w'):Rd.rd fp w' cs x:=Rd.mono (hw.lN (Rd.lt h)) h
instance {α:Type} [Rd α]:Rd (List α) where
 n:=1
 pos:=by omega
 rd fp w cs x:=∃v,cs=[v]∧SlR fp w v x
 len h:=by obtain⟨v,rfl,_⟩:=h;rfl
 lt h:=by obtain⟨v,rfl,h⟩:=h;exact h.lt
 mono hw h:=by obtain⟨v,rfl,h⟩:=h;exact⟨v,rfl,h.mono hw⟩
 one h u hu:=by obtain⟨v,rfl,a,cap,rfl,_⟩:=h;simp at hu;subst hu;rfl
theorem SlR.open{α:Type}[Rd α]{xs:List α}(h:SlR fp w v xs):
  ∃a cap,v=.slice a xs.length cap∧xs.length≤cap∧xs.length≤140737488351232∧
   ∀i (_:i<xs.length),∃b off,a=some ⟨b,off,none⟩∧b<w.heap.size:=by
 have q:=h.lt;obtain⟨a,cap,rfl,s,B,⟨rfl,rfl⟩|⟨b,off,fps,E,rfl,rfl,I,H,J⟩⟩:=h
 ·exact⟨a,cap,rfl,s,B,fun i D=>absurd D (by simp)⟩
 ·exact⟨_,cap,rfl,s,B,fun i D=>⟨b,off,rfl,q b (by simp)⟩⟩
theorem SlR.ops{α:Type}[Rd α]{a:Option Addr}{xs:List α}(h:SlR f w (.slice a n m) xs):xs.length≤m∧xs.length≤140737488351232∧∀i,i<xs.length→∃b off,a=some ⟨b,off,none⟩∧b<w.heap.size:=by
 obtain⟨_,_,e,q,s,B⟩:=h.open
 cases e
 exact⟨q,s,B⟩
theorem SlR.op3{α:Type}[Rd α]{a:Option Addr}{xs:List α}(h:SlR f w (.slice a n m) xs):∀i,i<xs.length→∃b off,a=some ⟨b,off,none⟩∧b<w.heap.size:=h.ops.2.2
theorem SlR.at{α:Type}[Rd α]{xs:List α}(h:SlR fp w (.slice (some ⟨b,off,none⟩) len cap) xs)(s:i<xs.length):
  ∃cs fq,jP w b (off+i*Rd.n α) cs∧Rd.rd fq w cs xs[i]∧(∀c∈fq,c∈fp):=by
 obtain⟨a,cap,B,O,T,⟨rfl,rfl⟩|⟨U,D,fps,J,rfl,rfl,X,K,E⟩⟩:=h
 ·simp at s
 ·injection B with q Y Z
  injection q with q;injection q with q H _;subst q H;obtain⟨cs,hc,I⟩:=E i s (by omega);exact⟨cs,_,hc,I,fun c hc=>mem_cons_of_mem _ (List.mem_flatten.2 ⟨_,getElem_mem _,hc⟩)⟩
theorem Lb{α:Type}[Rd α]{c:List Value}{x y:α}(h:Ky (y=x))(g:Ky (Rd.rd f w c y)):Rd.rd f w c x:=h.o▸g.o
theorem Lt{α:Type}[Rd α]{c:List Value}{x y:α}(h:y=x)(g:Rd.rd f w c x):Ky (Rd.rd f w c y):=Kz (h▸g)
theorem SlR.el{α:Type}[Rd α]{xs:List α}(h:SlR f w (.slice (some ⟨b,o,none⟩) n m) xs)(s:k<xs.length):∃(c:Array Value) (q:List Nat),jP w b (o+k*Rd.n α) c.toList∧Rd.rd q w c.toList xs[k]:=by
 obtain⟨cs,q,B,D,-⟩:=h.at s;exact⟨cs.toArray,q,B,D⟩
theorem SlR.fQ(h:SlR fp w (.slice (some ⟨b,off,none⟩) len cap) xs)(q:i<xs.length):
  w.cell? ⟨b,off+i,none⟩=some (.int .i64 xs[i])∧(Lit.int .i64 xs[i]).wf=true:=by
 obtain⟨cs,fq,hc,⟨rfl,rfl,hw⟩,_⟩:=h.at q;exact⟨by simpa[Rd.n] using hc 0 _ rfl,hw⟩
theorem SlR.Eu(h:SlR fp w v xs)(q:i<xs.length):(Lit.int .i64 xs[i]).wf=true:=by
 obtain⟨a,cap,rfl,_,_,s⟩:=h.open;obtain⟨b,off,rfl,_⟩:=s i q;exact(h.fQ q).2
theorem SlR.Pg{xs:List Bool}(h:SlR fp w (.slice (some ⟨b,off,none⟩) len cap) xs)(q:i<xs.length):
  w.cell? ⟨b,off+i,none⟩=some (.bool xs[i]):=by
 obtain⟨cs,fq,hc,⟨rfl,rfl⟩,_⟩:=h.at q;simpa[Rd.n] using hc 0 _ rfl
theorem SlR.jl{xs:List ByteArray}(h:SlR fp w (.slice (some ⟨b,off,none⟩) len cap) xs)(q:i<xs.length):
  w.cell? ⟨b,off+i,none⟩=some (.string xs[i])∧xs[i].size≤maxLen:=by
 obtain⟨cs,fq,hc,⟨rfl,rfl,hw⟩,_⟩:=h.at q;exact⟨by simpa[Rd.n] using hc 0 _ rfl,hw⟩
theorem SlR.J2{α:Type}[Rd α]{xs:List (List α)}(h:SlR fp w (.slice (some ⟨b,off,none⟩) len cap) xs)(q:i<xs.length):
  ∃v fq,w.cell? ⟨b,off+i,none⟩=some v∧SlR fq w v xs[i]∧(∀c∈fq,c∈fp):=by
 obtain⟨cs,fq,hc,⟨v,rfl,hw⟩,s⟩:=h.at q;exact⟨v,fq,by simpa[Rd.n] using hc 0 _ rfl,hw,s⟩
theorem SlR.nil{α:Type}[Rd α](w:World):SlR (α:=α) [] w (.slice none 0 0) []:=⟨none,0,rfl,le_refl _,by simp,.inl ⟨rfl,rfl⟩⟩
theorem mF{fr:Nat×Nat}(q:w.heap[b]?=some (.cells C t fr))(h:∀j v,cs[j]?=some v→C[off+j]?=some v):jP w b off cs:=by
 intro j v s
 rw[cell_of_row w b (off+j) C t fr q];exact h j v s
theorem jB(h:w.heap[b]?=some (.cells C t))(o:Nat):w.frozen? ⟨b,o,none⟩=false:=by
 unfold World.frozen?;rw[h];simp
theorem SlR.flat{α:Type}[Rd α]{xs:List α}(s:w.heap[b]?=some (.cells C t))(I:Rd.n α=1)
  (J:∀i (h:i<xs.length),∃c,C[i]?=some c∧Rd.rd [] w [c] xs[i]) (hcap:xs.length≤cap) (B:xs.length≤bn):
  ∃fp,SlR fp w (.slice (some ⟨b,0,none⟩) xs.length cap) xs∧(fp=[]∨fp=[b]):=by
 by_cases D:xs=[]
 ·subst D
  exact⟨[],⟨_,_,rfl,hcap,B,.inl ⟨rfl,rfl⟩⟩,.inl rfl⟩
 ·have E:∀n:Nat,(List.replicate n ([]:List Nat)).flatten=[]:=by intro n;simp
  refine⟨[b],⟨_,_,rfl,hcap,B,.inr ⟨b,0,List.replicate xs.length [],D,rfl,by rw[E],by simp,fun j _=>jB s _,fun i K O=>?_⟩⟩,.inr rfl⟩;obtain⟨c,hc,H⟩:=J i K;refine⟨[c],mF s fun j v q=>?_,by simpa using H⟩
  cases j with
  |zero=>simp at q;subst q;simpa[I] using hc
  |succ j=>simp at q
def aY(w:World)(fp:List Nat):Prop:=fp.Nodup∧∀b∈fp,w.heap.size≤b
theorem aa{a b:Bool}(h:a=b):Ending.returned (.bool a)=Ending.returned (.bool b):=by rw[h]
theorem aC{a b:Int}(h:a=b):Ending.returned (.int .i64 a)=Ending.returned (.int .i64 b):=by rw[h]
def idxOf{α:Type}(p:α→Bool):List α→Int
 |[]=>-1
 |x::xs=>if p x then 0 else let r:=idxOf p xs;if r<0 then -1 else r+1
theorem qU{α:Type}(p:α→Bool)(xs:List α):-1≤idxOf p xs:=by
 induction xs with
 |nil=>simp[idxOf]
 |cons x xs h=>
  simp only[idxOf]
  split
  ·omega
  ·split<;>omega
theorem iH{α:Type}{p:α→Bool}{xs:List α}(s:k<xs.length)(q:p xs[k]=true)(h:∀j (h:j<xs.length),j<k→p xs[j]=false):idxOf p xs=k:=by
 induction xs generalizing k with
 |nil=>simp at s
 |cons x xs D=>
  cases k with
  |zero=>simp at q;simp[idxOf,q]
  |succ k=>
   have B:=h 0 (by simp) (by omega);simp at B
   have:=D (k:=k) (by simpa using s) (by simpa using q) (fun j I H=>by
    have E:=h (j+1) (by simp;omega) (by omega)
    rwa [List.getElem_cons_succ] at E)
   simp[idxOf,B,this];omega
theorem gu{α:Type}{p:α→Bool}{xs:List α}(h:∀j (h:j<xs.length),p xs[j]=false):idxOf p xs= -1:=by
 induction xs with
 |nil=>rfl
 |cons x xs s=>
  have q:=h 0 (by simp);simp at q
  have:=s (fun j D=>by
   have B:=h (j+1) (by simp;omega)
   rwa [List.getElem_cons_succ] at B)
  simp[idxOf,q,this]
theorem FW{y:Int}(q:k<xs.length)(h:(xs[k]==y)=true):xs.any (fun z=>y==z)=true:=by
 rw[List.any_eq_true];exact⟨xs[k],getElem_mem q,by simp at h ⊢;exact h.symm⟩
theorem Cr{y:Int}(h:∀j (h:j<xs.length),(xs[j]==y)=false):xs.any (fun z=>y==z)=false:=by
 rw[List.any_eq_false];intro z q
 obtain⟨j,s,rfl⟩:=List.mem_iff_getElem.1 q;have:=h j s;simp at this ⊢;exact fun e=>this e.symm
theorem iW{α:Type}{p:α→Bool}{xs:List α}:0≤idxOf p xs↔xs.any p=true:=by
 induction xs with
 |nil=>simp[idxOf]
 |cons x xs q=>
  simp only[idxOf,List.any_cons,Bool.or_eq_true,←q]
  by_cases h:p x=true
  ·simp[h]
  ·have:=qU p xs
   simp only[h,Bool.false_eq_true,if_false,false_or]
   split<;>omega
theorem aY.of_flat(h:fp=[]∨fp=[b])(q:w.heap.size≤b):aY w fp:=by
 rcases h with rfl|rfl
 ·exact⟨by simp,by simp⟩
 ·exact⟨by simp,by simpa using q⟩
theorem aY.cons(h:w.heap.size≤b):aY w [b]:=⟨by simp,by simpa using h⟩
theorem aY.append(h:aY w fp)(hw:w.heap.size≤w1.heap.size)(s:∀b∈fp,b<w1.heap.size)(k:aY w1 fq):aY w (fp++fq):=by
 refine⟨List.nodup_append.2 ⟨h.1,k.1,fun a B b q e=>?_⟩,fun b q=>?_⟩
 ·have:=s a B;have:=k.2 b q;omega
 ·rcases List.mem_append.1 q with q|q
  ·exact h.2 b q
  ·have:=k.2 b q;omega
theorem aY.sub(h:aY w fp)(q:fq.Sublist fp):aY w fq:=⟨h.1.sublist q,fun b s=>h.2 b (q.subset s)⟩
theorem aY.of_le(h:aY w1 fp)(hw:w.heap.size≤w1.heap.size):aY w fp:=⟨h.1,fun b q=>le_trans hw (h.2 b q)⟩
theorem aY.nil(w:World):aY w []:=⟨by simp,by simp⟩
theorem Ea{o o':Obj}{x y:Ext}(h:w.heap.size∉fp)(q:∀c∈fp,c<((w.alloc o).ext x).heap.size):
  fB fp ((w.alloc o).ext x) ((w.alloc o').ext (x.comp y)):=by
 intro c hc
 rw[qZ (o:=o) _ (fun e=>h (e▸hc)),←iV,mW _ _ (q c hc)]
structure iF{α:Type}[Rd α](w0:World)(b:Nat)(w:World)(C:Array Value)(k:Nat)(fps:List (List Nat))(xs:List α):Prop where
 len:fps.length=k
 le:k≤xs.length
 rows:∀i (_:i<k) (h1:i<xs.length) (h2:i<fps.length),∃cs,(∀j v,cs[j]?=some v→C[i*Rd.n α+j]?=some v)∧Rd.rd fps[i] w cs xs[i]
 fresh:aY w0 (b::fps.flatten)
 lt:∀c∈b::fps.flatten,c<w.heap.size
theorem iF.start{α:Type}[Rd α](C:Array Value)(xs:List α)(q:w0.heap.size≤b)(s:b<w.heap.size):iF w0 b w C 0 [] xs:=
 ⟨rfl,Nat.zero_le _,fun i h=>absurd h (Nat.not_lt_zero _),by simpa using aY.cons q,by simpa using s⟩
theorem iF.step{α:Type}[Rd α]{q:World}{C':Array Value}{xs:List α}(h:iF w0 b w C k fps xs)(O:k<xs.length)
  (T:fB fps.flatten w q) (U:w.heap.size≤w1.heap.size) (ae:w0.heap.size≤w.heap.size) (ah:w1.heap.size≤q.heap.size)
  (E:Rd.rd fq q cs xs[k]) (X:aY w1 fq) (hold:∀j,j<k*Rd.n α→C'[j]?=C[j]?) (hnew:∀j v,cs[j]?=some v→C'[k*Rd.n α+j]?=some v):
  iF w0 b q C' (k+1) (fps++[fq]) xs:=by
 obtain⟨H,h2,Y,Z,D⟩:=h;refine⟨by simp[H],O,fun i hi I ai=>?_,?_,?_⟩
 ·by_cases s:i<k
  ·obtain⟨J,hc,B⟩:=Y i s I (by omega)
   refine⟨J,fun j v K=>?_,?_⟩
   ·have aj:j<Rd.n α:=by
     have:=Rd.len B;have:=(List.getElem?_eq_some_iff.1 K).1;omega
    have hm:i*Rd.n α+j<k*Rd.n α:=by
     have:(i+1)*Rd.n α≤k*Rd.n α:=Nat.mul_le_mul_right _ s;rw[Nat.add_mul] at this;omega
    rw[hold _ hm];exact hc j v K
   ·rw[List.getElem_append_left (by omega)]
    exact Rd.mono (T.sub fun c hc=>List.mem_flatten.2 ⟨_,getElem_mem _,hc⟩) B
  ·obtain rfl:i=k:=by omega
   refine⟨cs,hnew,?_⟩;rw[List.getElem_append_right (by omega)];simpa[H] using E
 ·have:=Z.append (fq:=fq) (w1:=w1) (by omega) (fun c hc=>lt_of_lt_of_le (D c hc) U) X
  simpa using this
 ·intro c hc
  rw[List.flatten_append] at hc;simp only[List.flatten_cons,List.flatten_nil,List.append_nil,List.mem_cons,mem_append] at hc;rcases hc with rfl|hc|hc
  ·exact lt_of_lt_of_le (D c (by simp)) (by omega)
  ·exact lt_of_lt_of_le (D c (mem_cons_of_mem _ hc)) (by omega)
  ·exact Rd.lt E c hc
theorem iF.lT{α:Type}[Rd α]{x y:Ext}{C':Array Value}{xs:List α}(h:iF w w.heap.size ((w.alloc (.cells C t)).ext x) C k fps xs)(H:k<xs.length)
  (q:Rd.rd fq (((w.alloc (.cells C t)).ext x).ext y) cs xs[k]) (s:aY ((w.alloc (.cells C t)).ext x) fq)
  (hold:∀j,j<k*Rd.n α→C'[j]?=C[j]?) (hnew:∀j v,cs[j]?=some v→C'[k*Rd.n α+j]?=some v):
  iF w w.heap.size ((w.alloc (.cells C' t)).ext (x.comp y)) C' (k+1) (fps++[fq]) xs:=by
 have B:=h.fresh.1;have D:=h.lt;have E:w.heap.size∉fps.flatten:=(List.nodup_cons.1 B).1;refine h.step (w1:=(w.alloc (.cells C t)).ext x) H (Ea E fun c hc=>D c (mem_cons_of_mem _ hc)) (le_refl _) (by simp;omega) (by simp[Ext.comp]) ?_ s hold hnew;rw[iV] at q;refine Rd.mono (fun c hc=>qZ _ fun e=>?_) q;have:=s.2 c hc;simp at this;omega
theorem O8{j:Nat}(h:j<k*1):(C.setIfInBounds k v)[j]?=C[j]?:=by
 rw[Array.getElem?_setIfInBounds,if_neg (by omega)]
theorem Pb(q:k<C.size):∀j u,[v][j]?=some u→(C.setIfInBounds k v)[k*1+j]?=some u:=by
 intro j u h
 cases j with
 |zero=>simp at h;subst h;simp[q]
 |succ j=>simp at h
theorem iF.keep{α:Type}[Rd α]{q:World}{xs:List α}(h:iF w0 b w C k fps xs)
  (D:fB fps.flatten w q) (E:w.heap.size≤q.heap.size):iF w0 b q C k fps xs:=by
 obtain⟨H,I,J,K,O⟩:=h;refine⟨H,I,fun i T s B=>?_,K,fun c hc=>lt_of_lt_of_le (O c hc) E⟩;obtain⟨cs,hc,U⟩:=J i T s B;exact⟨cs,hc,Rd.mono (D.sub fun c hc=>List.mem_flatten.2 ⟨_,getElem_mem _,hc⟩) U⟩
theorem iF.done{α:Type}[Rd α]{xs:List α}(h:iF w0 b w C xs.length fps xs)
  (q:w.heap[b]?=some (.cells C t)) (hcap:xs.length≤cap) (s:xs.length≤bn):
  ∃fp,SlR fp w (.slice (some ⟨b,0,none⟩) xs.length cap) xs∧aY w0 fp:=by
 obtain⟨I,T,J,K,U⟩:=h
 by_cases B:xs=[]
 ·subst B
  exact⟨[],⟨_,_,rfl,hcap,s,.inl ⟨rfl,rfl⟩⟩,aY.nil _⟩
 ·refine⟨b::fps.flatten,⟨_,_,rfl,hcap,s,.inr ⟨b,0,fps,B,rfl,rfl,I,fun j _=>jB q _,fun i D E=>?_⟩⟩,K⟩
  obtain⟨cs,hc,H⟩:=J i D D E;exact⟨cs,mF q (fun j v O=>by rw[Nat.zero_add];exact hc j v O),H⟩
instance {α β:Type} [Rd α] [Rd β]:Rd (α×β) where
 n:=Rd.n α+Rd.n β
 pos:=by have:=Rd.pos (α:=α);omega
 rd fp w cs x:=∃c1 c2 f1 f2,cs=c1++c2∧fp=f1++f2∧Rd.rd f1 w c1 x.1∧Rd.rd f2 w c2 x.2
 len h:=by obtain⟨c1,c2,f1,f2,rfl,rfl,h1,h2⟩:=h;simp[Rd.len h1,Rd.len h2]
 lt h:=by
  obtain⟨c1,c2,f1,f2,rfl,rfl,h1,h2⟩:=h;intro b hb
  rcases List.mem_append.1 hb with hb|hb
  ·exact Rd.lt h1 b hb
  ·exact Rd.lt h2 b hb
 mono hw h:=by
  obtain⟨c1,c2,f1,f2,rfl,rfl,h1,h2⟩:=h;exact⟨c1,c2,f1,f2,rfl,rfl,Rd.mono (hw.sub fun b hb=>List.mem_append_left _ hb) h1,Rd.mono (hw.sub fun b hb=>List.mem_append_right _ hb) h2⟩
 one h u hu:=by
  obtain⟨c1,c2,f1,f2,rfl,rfl,h1,h2⟩:=h;rcases List.mem_append.1 hu with hu|hu
  ·exact Rd.one h1 u hu
  ·exact Rd.one h2 u hu
def lh(α:Type)[Rd α](P:Program)(t:TypeId):Prop:=
 P.cellsOf t=Rd.n α∧∀{H:Type} (enc:TypeId×Value→H) (w:World) (fuel:Nat) (cs:List Value) (d:DataW H) (h:List MemPlace),
  DataW.trod enc P w 0 (fun _=>true) true fuel t cs=some (d,h)→(∀n∈d.weights P t,n≤reachBytes)→w.noneFrozen h→∃fp x,Rd.rd (α:=α) fp w cs x
theorem gN{P:Program}(q:P.underlying t=some (.int .i64))(hc:P.cellsOf t=1):lh Int P t:=
 ⟨hc,fun enc w fuel cs d s h _ _=>by
  obtain⟨n,rfl,_,hw⟩:=DataW.trod_int q h;exact⟨[],n,rfl,rfl,hw⟩⟩
theorem wR{P:Program}(q:P.underlying t=some .bool)(hc:P.cellsOf t=1):lh Bool P t:=
 ⟨hc,fun enc w fuel cs d s h _ _=>by
  obtain⟨n,rfl,_⟩:=DataW.trod_bool q h;exact⟨[],n,rfl,rfl⟩⟩
theorem eP{P:Program}(q:P.underlying t=some .string)(hc:P.cellsOf t=1):lh ByteArray P t:=
 ⟨hc,fun enc w fuel cs d B h _ _=>by
  obtain⟨s,rfl,_,hw⟩:=DataW.trod_string q h;exact⟨[],s,rfl,rfl,hw⟩⟩
theorem lL{H:Type}{P:Program}{e:TypeId}:∀{l:List (DataW H)} {d:DataW H},d∈l→∀n∈d.weights P e,n∈DataW.weightsAll P e l
 |a::l,d,h,n,q=>by
  simp only[DataW.weightsAll,mem_append];rcases List.mem_cons.1 h with rfl|h
  ·exact .inl q
  ·exact .inr (lL h n q)
 |[],_,h,_,_=>by simp at h
theorem BO{base:Nat}{a:Addr}(h:w.cells? base a n=some cs)(I:0<n):∃b off,a=⟨b,off,none⟩∧jP w b off cs∧cs.length=n:=by
 obtain⟨_,B,D⟩:=World.cells?_some h;have q:=D 0 I;obtain⟨b,off,sp⟩:=a;have J:(⟨b,off,sp⟩:Addr).add 0=⟨b,off,sp⟩:=by simp[Addr.add]
 rw[J] at q
 have K:sp=none:=by
  cases sp with
  |none=>rfl
  |some s=>
   have:w.cell? ⟨b,off,some s⟩=none:=by
    unfold World.cell?
    split<;>simp
   rw[this] at q;have:=List.getElem?_eq_none_iff.1 q.symm;omega
 subst K;refine⟨b,off,rfl,fun j v E=>?_,B⟩;have H:j<n:=by rw[←B];exact(List.getElem?_eq_some_iff.1 E).1
 have:=D j H;rw[E] at this
 have e:(⟨b,off,none⟩:Addr).add j=⟨b,off+j,none⟩:=by
  unfold Addr.add
  split
  ·rename_i e;subst e;rfl
  ·rfl
 rwa [e] at this
theorem kN{α:Type}[Rd α]{P:Program}{e:TypeId}(Y:P.underlying t=some (.slice e))(hc:P.cellsOf t=1)(he:lh α P e)(ae:decide (1≤P.bytesOf e)=true):lh (List α) P t:=by
 have hb:=of_decide_eq_true ae;obtain⟨Z,he⟩:=he;refine⟨hc,fun{H} enc w fuel cs d ps h X hfz=>?_⟩;rcases DataW.trod_slice Y h with⟨rfl,J⟩|⟨a,len,cap,elems,rest,n,_,rfl,J,_,hl,hm,hlen,ah,ai,_⟩
 ·exact⟨[],[],_,rfl,SlR.nil w⟩
 ·have ax:=(ai rfl).1
  simp only[Prod.mk.injEq] at J;obtain⟨J,aj⟩:=J;subst J aj
  have K:cap≤bn:=by
   have:=X ((elems.length+rest.length)*P.bytesOf e) (by simp[DataW.weights,Y]);have e1:elems.length+rest.length=cap:=by omega
   rw[e1] at this;have h2:cap*1≤cap*P.bytesOf e:=Nat.mul_le_mul_left _ hb;have h3:reachBytes=bn:=by decide
   omega
  have each:∀i,i<len→∃b off q fq x,a.add (i*P.cellsOf e)=⟨b,off,none⟩∧jP w b off q∧Rd.rd (α:=α) fq w q x:=by
   intro i D
   have hx:=ah i D;have E:i<elems.length:=by omega
   rw[List.getElem?_eq_getElem E] at hx;obtain⟨q,h1,h2⟩:=Option.bind_eq_some_iff.1 hx;obtain⟨b,off,T,B,_⟩:=BO h1 (by rw[Z];exact Rd.pos)
   obtain⟨fq,x,O⟩:=he enc w n q (elems[i]).1 (elems[i]).2 h2 (fun k hk=>X k (by
    simp only[DataW.weights,Y,List.mem_cons,mem_append];exact .inr (.inl (lL (List.mem_map_of_mem (getElem_mem E)) k hk))))
    (fun b o hm=>hfz b o (List.mem_append_right _ (List.mem_flatMap.2 ⟨_,List.mem_append_left _ (getElem_mem E),hm⟩)))
   exact⟨b,off,q,fq,x,T,B,O⟩
  by_cases h0:len=0
  ·subst h0
   exact⟨[],[],_,rfl,some a,cap,rfl,by simp,by simp,.inl ⟨rfl,rfl⟩⟩
  ·obtain⟨I,s,_,_,x0,au,_,_⟩:=each 0 (by omega)
   have ea:a=⟨I,s,none⟩:=by simpa[Addr.add] using au
   subst ea
   have U:∀i,∃y:List Nat×α,i<len→∃q,jP w I (s+i*Rd.n α) q∧Rd.rd y.1 w q y.2:=by
    intro i
    by_cases D:i<len
    ·obtain⟨b,off,q,fq,x,T,B,O⟩:=each i D
     refine⟨(fq,x),fun _=>⟨q,?_,O⟩⟩
     have e:(⟨I,s,none⟩:Addr).add (i*P.cellsOf e)=⟨I,s+i*P.cellsOf e,none⟩:=by
      unfold Addr.add
      split
      ·rename_i e;rw[e];rfl
      ·rfl
     rw[e] at T;injection T with e1 e2;subst e1 e2
     rwa [Z] at B
    ·exact⟨([],x0),fun h=>absurd h D⟩
   obtain⟨f,hf⟩:=Classical.axiomOfChoice U;refine⟨_,(List.range len).map fun i=>(f i).2,_,rfl,some ⟨I,s,none⟩,cap,by simp,by simpa using hl,(by have this:len≤bn:=le_trans hl K;simpa using this),.inr ⟨I,s,(List.range len).map fun i=>(f i).1,by simp[h0],rfl,rfl,by simp,fun j hj=>hfz _ _ (List.mem_append_left _ ?_),fun i D E=>?_⟩⟩
   ·simp only[List.length_map,List.length_range] at hj
    refine List.mem_map.2 ⟨j,List.mem_range.2 ?_,rfl⟩
    rw[Z,hlen];exact lt_of_lt_of_le hj (Nat.mul_le_mul_right _ (by omega))
   ·simp only[List.length_map,List.length_range] at D
    obtain⟨q,B,O⟩:=hf i D;exact⟨q,B,by simpa using O⟩
structure Seg(α:Type)[Rd α](P:Program)(off:Nat)(fs:List Field):Prop where
 o:∀(H:Type) (enc:TypeId×Value→H) (w:World) (cs:List Value),cs.length=off+Rd.n α→
  (∀f∈fs,∃fuel d ps,DataW.trod enc P w 0 (fun _=>true) true fuel f.type ((cs.drop f.offset).take (P.cellsOf f.type))=some (d,ps)∧(∀n∈d.weights P f.type,n≤reachBytes)∧w.noneFrozen ps)→
  ∃fp x,Rd.rd (α:=α) fp w (cs.drop off) x
theorem oZ{α:Type}[Rd α]{P:Program}{f:Field}(q:lh α P f.type)(s:f.offset=off):Seg α P off [f]:=by
 refine⟨fun H enc w cs I B=>?_⟩;obtain⟨fuel,d,D,h,hw,E⟩:=B f (by simp);rw[s,q.1,List.take_of_length_le (by simp;omega)] at h;exact q.2 enc w fuel _ d D h hw E
theorem jq{α β:Type}[Rd α][Rd β]{P:Program}{f:Field}{q:List Field}(s:lh α P f.type)(D:f.offset=off)(E:Seg β P (off+Rd.n α) q):Seg (α×β) P off (f::q):=by
 refine⟨fun H enc w cs X B=>?_⟩;obtain⟨fuel,d,I,h,hw,J⟩:=B f (by simp);rw[D,s.1] at h;obtain⟨f1,x,K⟩:=s.2 enc w fuel _ d I h hw J;have U:Rd.n (α×β)=Rd.n α+Rd.n β:=rfl;obtain⟨f2,y,O⟩:=E.o H enc w cs (by omega) (fun g T=>B g (mem_cons_of_mem _ T));refine⟨f1++f2,(x,y),_,_,f1,f2,?_,rfl,K,O⟩;rw[←List.drop_drop,List.take_append_drop]
theorem jD{α:Type}[Rd α]{P:Program}{q:Array Field}(E:Nat)(I:P.underlying t=some (.struct q))(T:Rd.n α=E)(J:P.cellsOf t=E)(U:Seg α P 0 q.toList):lh α P t:=by
 have hc:P.cellsOf t=Rd.n α:=J.trans T.symm;refine⟨hc,fun{H} enc w fuel cs d ps h hwt hfz=>?_⟩;obtain⟨xs,n,_,B,hl,hlen,X⟩:=DataW.trod_struct I h;simp only[Prod.mk.injEq] at B;obtain⟨B,K⟩:=B;subst B K
 have:=U.o H enc w cs (by omega) (fun f Y=>by
  obtain⟨i,Z,rfl⟩:=List.mem_iff_getElem.1 Y;have D:i<q.size:=by simpa using Z
  have s:i<xs.length:=by omega
  have O:=X i q[i] (by simp[D]);rw[List.getElem?_eq_getElem s] at O;refine⟨n,(xs[i]).1,(xs[i]).2,by simpa using O,fun k hk=>hwt k ?_,fun b o hm=>hfz b o (List.mem_flatMap.2 ⟨_,getElem_mem s,hm⟩)⟩;simp only[DataW.weights,I];exact DataW.weights_mem_each (j:=i) (t:=q[i].type) (d:=(xs[i]).1) (by simp[D]) (by simp[List.getElem?_map,List.getElem?_eq_getElem s]) k (by simpa using hk))
 simpa using this
end Go.Proofs.YtdhighcpmcdmmaaGreat
