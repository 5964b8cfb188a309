/- Contracts and laws towards ReadsOf, part 2 of 54. No condition. -/
import Derived.Test.YtleafadpfeibfaaGreatRx00
import Derived.Deep.RegionHeld3
import Derived.Test.YtleafadpfeibfaaGreatRows
import Derived.Test.YtleafadpfeibfaaGreatChecked
import Derived.JoinedOf
set_option maxHeartbeats 32000000
set_option maxRecDepth 10000
set_option linter.unusedVariables false
set_option linter.unusedSimpArgs false
namespace Go.Proofs.YtleafadpfeibfaaGreat
open Go.RowKit
theorem fI(x lo hi:Int)(w:World):
  Calls Tryz.prog 96 #[.int .i64 x,.int .i64 lo,.int .i64 hi] w fun e w'=>e=.returned (.bool (decide (lo≤x)&&decide (x≤hi)))∧w=w':=by
 go_in
 go_wp2
 all_goals(go_ret;refine⟨?_,rfl⟩;simp[*])
 omega
theorem di(x lo hi:Int)(w:World):
  Calls Tryz.prog 137 #[.int .i64 x,.int .i64 lo,.int .i64 hi] w fun e w'=>e=.returned (.bool (decide (lo≤x)&&decide (x≤hi)))∧w=w':=by
 go_in
 go_wp2
 all_goals(go_ret;refine⟨?_,rfl⟩;simp[*])
 omega
theorem fJ(x lo hi:Int)(w:World)(h:lo≤x)(q:x≤hi):
  Qz 96 #[.int .i64 x,.int .i64 lo,.int .i64 hi] w (.bool true):=
 (fI x lo hi w).mono fun e w' ⟨he,hw⟩=>⟨by rw[he,decide_eq_true h,decide_eq_true q];rfl,hw▸Gr.refl w⟩
theorem eu(x lo hi:Int)(w:World)(h:x<lo∨hi<x):
  Qz 96 #[.int .i64 x,.int .i64 lo,.int .i64 hi] w (.bool false):=
 (fI x lo hi w).mono fun e w' ⟨he,hw⟩=>⟨by rw[he,Bool.and_eq_false_iff.2 (h.imp (fun h=>decide_eq_false (by omega)) (fun h=>decide_eq_false (by omega)))],hw▸Gr.refl w⟩
theorem kC(x lo hi:Int)(w:World)(h:lo≤x)(q:x≤hi):
  Qz 137 #[.int .i64 x,.int .i64 lo,.int .i64 hi] w (.bool true):=
 (di x lo hi w).mono fun e w' ⟨he,hw⟩=>⟨by rw[he,decide_eq_true h,decide_eq_true q];rfl,hw▸Gr.refl w⟩
theorem mX(x lo hi:Int)(w:World)(h:x<lo∨hi<x):
  Qz 137 #[.int .i64 x,.int .i64 lo,.int .i64 hi] w (.bool false):=
 (di x lo hi w).mono fun e w' ⟨he,hw⟩=>⟨by rw[he,Bool.and_eq_false_iff.2 (h.imp (fun h=>decide_eq_false (by omega)) (fun h=>decide_eq_false (by omega)))],hw▸Gr.refl w⟩
theorem Ed(fp fq:List Nat)(u v:Value)(xs q:List Int)(w:World)(hu:SlR fp w u xs)(hv:SlR fq w v q):
  Qz 57 #[u,v] w (.bool (decide (xs=q))):=by
 obtain⟨a,ca,rfl,h1,h2,U⟩:=hu.open;obtain⟨c,cc,rfl,g1,g2,g3⟩:=hv.open
 by_cases D:xs.length=q.length
 ·have K:=Kz D
  have V:((xs.length:Int)!=(q.length:Int))=false:=by simp[D]
  clear D;delta Qz;go_in
  go_wp2
  go_loopw [5] (fun O wr=>∃k:Nat,k≤xs.length∧xs.take k=q.take k∧Gr w wr∧O=.int .i64 k) (fun O _=>xs.length - (intOf O).toNat)
  case atStart=>exact⟨0,by omega,rfl,Gr.refl w,rfl⟩
  case round=>
   obtain⟨k,hk,ht,⟨x,rfl⟩,rfl⟩:=hrel
   by_cases I:k<xs.length
   ·have B:k<q.length:=by have:=K.o;omega
    obtain⟨b,off,rfl,hb⟩:=U k I;obtain⟨b',Y,rfl,ae⟩:=g3 k B;have x1:=(hu.fQ I).1;have x2:=(hv.fQ B).1;have Z:=Kz ht;clear U g3 ht;go_wp2_with fail;refine wg ?_
    repeat(go_big_quiet_step (fail))
    refine wq fun nx=>?_
    go_wp2
    ·rename_i T
     go_ret;have J:xs[k]≠q[k]:=by simpa using T
     have E:xs≠q:=fun e=>J (by subst e;rfl)
     exact⟨aa (decide_eq_false E).symm,((Gr.refl w).ext _).ext _⟩
    ·rename_i T
     have J:xs[k]=q[k]:=by simpa using T
     refine⟨⟨k+1,by omega,?_,((Gr.refl w).ext _).ext _,by go_num⟩,by simp[intOf];omega⟩;rw[List.take_succ_eq_append_getElem I,List.take_succ_eq_append_getElem B,Z.o,J]
   ·have X:k=xs.length:=by omega
    subst X
    have e:xs=q:=by
     have h:=ht;have h':=K.o;rw[List.take_length,h',List.take_length] at h;exact h
    have E:=Kz e;clear e ht
    go_wp2
    go_ret;exact⟨aa (decide_eq_true E.o).symm,(Gr.refl w).ext _⟩
 ·have V:((xs.length:Int)!=(q.length:Int))=true:=by simp;omega
  have e:xs≠q:=fun e=>D (by rw[e])
  have E:=Kz e;clear e D;delta Qz;go_in
  go_wp2
  go_ret;exact⟨aa (decide_eq_false E.o).symm,Gr.refl w⟩
theorem Bp(fp:List Nat)(u:Value)(xs:List Int)(y:Int)(w:World)(hu:SlR fp w u xs):
  Qz 53 #[u,.int .i64 y] w (.bool (xs.any (fun z=>y==z))):=by
 obtain⟨a,U,rfl,h1,V,K⟩:=hu.open;delta Qz;go_in
 go_wp2
 go_loopw [5] (fun B wr=>∃k:Nat,k≤xs.length∧(∀j (h:j<xs.length),j<k→(xs[j]==y)=false)∧Gr w wr∧B=.int .i64 k) (fun B _=>xs.length - (intOf B).toNat)
 case atStart=>exact⟨0,by omega,by omega,Gr.refl w,rfl⟩
 case round=>
  obtain⟨k,hk,ht,⟨x,rfl⟩,rfl⟩:=hrel;have O:=Kz ht;clear ht
  by_cases q:k<xs.length
  ·obtain⟨b,off,rfl,hb⟩:=K k q
   have X:=(hu.fQ q).1;clear K
   go_wp2
   ·rename_i D
    go_ret;exact⟨aa (FW q D).symm,(Gr.refl w).ext _⟩
   ·rename_i D
    refine⟨⟨k+1,by omega,fun j I T=>?_,(Gr.refl w).ext _,by go_num⟩,by simp[intOf];omega⟩
    by_cases J:j<k
    ·exact O.o j I J
    ·obtain rfl:j=k:=by omega
     exact D
  ·go_wp2
   go_ret;exact⟨aa (Cr fun j I=>O.o j I (by omega)).symm,(Gr.refl w).ext _⟩
structure TestI(w:World)(fid:Nat)(cap:Array Value)(p:Int→Bool)(xs:List Int):Prop where
 fn:∀args W,(callFunc fid args).run Tryz.prog W=.ok (.enter fid args) W
 calls:∀y∈xs,∀x:Ext,Qz fid (#[.int .i64 y]++cap) (w.ext x) (.bool (p y))
section
variable{P:Program}{ops:Array Oper}{Q:Exit→Act→World→Prop}{md:Region.Mode}{S:World→Prop}{z:Nat}
def waits(md:Region.Mode)(ops:Array Oper)(z i:Nat):Bool:=((ops[z]?).map fun p=>p.after.any fun e=>Region.binds md e&&e.on==i).getD false
def qy(P:Program)(md:Region.Mode)(ops:Array Oper)(Q:Exit→Act→World→Prop)(S:World→Prop)(z:Nat):Nat→Array Bool→Act→World→Prop
 |0,l,a,w=>Region.ready md ops l=[]∧Q .normal a w
 |n+1,l,a,w=>(Region.ready md ops l=[]→Q .normal a w)∧
   ∀i∈Region.ready md ops l,wpOp P ops Q i (fun b u=>(i≠z→S u)∧qy P md ops Q S z n (l.setIfInBounds i true) b u) a w
theorem CS:∀(n:Nat) (l:Array Bool) (a:Act) (w:World),qy P md ops Q S z n l a w→wpAny P md ops Q n l a w
 |0,_,_,_,h=>h
 |n+1,_,_,_,h=>⟨h.1,fun i hi=>wpOp_mono (fun b u k=>CS n _ b u k.2) (h.2 i hi)⟩
theorem Cn{i j:Nat}{l:Array Bool}(hr:i∈Region.ready md ops l)(q:l.getD i false=true):j=i→False:=by
 intro _
 have B:=(mem_ready.1 hr).1
 by_cases h:i<l.size
 ·simp[h] at B q;rw[B] at q;cases q
 ·simp[Array.getElem?_eq_none (Nat.le_of_not_lt h)] at q
theorem D8{i:Nat}{o:Oper}{v:Value}(hi:ops[i]?=some o)(hz:waits md ops z i=true)(hs:∀(j:Nat) (p:Oper) cs b,ops[j]?=some p→p.op≠.select cs b)
  (hq:∀c a w,Q (.panic c) (a.put o.dst v) w→Q (.panic c) a w) (n:Nat):
  ∀(l:Array Bool) (a:Act) (w:World),
   (∀j p,ops[j]?=some p→j≠i→l.getD j true=false→(∀e∈p.after,Region.binds md e=true→e.on≠i)→o.apart ops p=true)→
   i∈Region.ready md ops l→YieldsIf P ops S o v a→S w→qy P md ops Q S z n (l.setIfInBounds i true) (a.put o.dst v) w→qy P md ops Q S z (n+1) l a w:=by
 induction n with
 |zero=>
  intro l a w _ hr h hw hu
  constructor
  ·intro O;rw[O] at hr;cases hr
  ·intro j B
   by_cases e:j=i
   ·subst e;exact h.wpOp hi hw ⟨fun _=>hw,hu⟩
   ·have hm:=ready_mono B e
    rw[hu.1] at hm;cases hm
 |succ n ih=>
  intro l a w X hr h hw hu
  constructor
  ·intro O;rw[O] at hr;cases hr
  ·intro j B
   by_cases e:j=i
   ·subst e;exact h.wpOp hi hw ⟨fun _=>hw,hu⟩
   ·have step:=hu.2 j (ready_mono B e)
    obtain⟨I,p,D,T⟩:=mem_ready.1 B
    have J:∀x∈p.after,Region.binds md x=true→x.on≠i:=fun x U hb he=>by
     have Y:=T x U hb;rw[he] at Y;exact Cn (j:=i) hr Y rfl
    have Z:j≠z:=by
     intro c
     subst c;simp only[waits,D,Option.map_some,Option.getD_some] at hz;obtain⟨x,U,V⟩:=Array.any_eq_true'.1 hz;simp only[Bool.and_eq_true,beq_iff_eq] at V;exact J x U V.1 V.2
    have moved:=wpOp_putIf D (X j p D e I J) (fun cs b=>hs i o cs b hi) (fun cs b=>hs j p cs b D) hq h step
    have ae:∀k q,ops[k]?=some q→k≠i→(l.setIfInBounds j true).getD k true=false→(∀x∈q.after,Region.binds md x=true→x.on≠i)→o.apart ops q=true:=by
     intro k q hk ah ai hn
     refine X k q hk ah ?_ hn
     by_cases c:j=k
     ·subst c;exact I
     ·rwa [getD_set_ne true c] at ai
    refine wpOp_mono ?_ moved
    rintro b u ⟨aj,K,hU⟩;refine⟨K,ih _ b u ae (ready_mono hr (Ne.symm e)) aj (K Z) ?_⟩;rw[Array.setIfInBounds_comm _ _ e];exact hU
theorem Fp{i:Nat}{o:Oper}{v:Value}{n:Nat}{l:Array Bool}{a:Act}{w:World}(hi:ops[i]?=some o)(hz:waits md ops z i=true)
  (hs:Region.noSelect ops=true) (q:Region.free md ops l i=true) (hr:(Region.ready md ops l).contains i=true)
  (B:∀c a w,Q (.panic c) (a.put o.dst v) w→Q (.panic c) a w) (D:YieldsIf P ops S o v a) (hw:S w)
  (h:qy P md ops Q S z n (l.setIfInBounds i true) (a.put o.dst v) w):qy P md ops Q S z (n+1) l a w:=
 D8 hi hz (Region.noSelect_spec hs) B n l a w (Region.free_spec hi q) (by simpa using hr) D hw h
theorem uq1{α:Type}(l:List α)(i:Nat)(a:α):l.toArray.setIfInBounds i a=(l.set i a).toArray:=List.setIfInBounds_toArray l i a
theorem uq2{α:Type}{x:α}{xs:List α}{a:α}:(x::xs).set 0 a=a::xs:=rfl
theorem uq3{α:Type}{x:α}{xs:List α}{n:Nat}{a:α}:(x::xs).set (n+1) a=x::xs.set n a:=rfl
theorem aN(i:Nat){o:Oper}{v:Value}{n:Nat}{l q:Array Bool}{a B:Act}{w:World}(h:qy P md ops Q S z n q B w)(hi:ops[i]?=some o:=by rfl)(hz:waits md ops z i=true:=by kernel_rfl)
  (hs:Region.noSelect ops=true:=by kernel_rfl) (I:Region.free md ops l i=true:=by kernel_rfl) (hr:(Region.ready md ops l).contains i=true:=by kernel_rfl)
  (J:∀c a w,Q (.panic c) (a.put o.dst v) w→Q (.panic c) a w:=by exact fun _ _ _ h=>h) (K:YieldsIf P ops S o v a:=by refine Or.inl ⟨by rfl,?_⟩;intro w D;(try dsimp only at D);go_simp;all_goals with_reducible rfl) (hw:S w:=by assumption) (O:a.put o.dst v=B:=by(try simp only[Act.put,uq1,uq2,uq3]);rfl) (T:l.setIfInBounds i true=q:=by(try simp only[Array.replicate,uq1,uq2,uq3]);rfl):
  qy P md ops Q S z (n+1) l a w:=Fp hi hz hs I hr J K hw (by rw[O,T];exact h)
theorem aK(i s:Nat){o:Oper}{v:Value}{n:Nat}{l q:Array Bool}{a B:Act}{w:World}(h:wpAnyH P md ops Q S n q B w)(hi:ops[i]?=some o:=by rfl)(I:o.dst=some s:=by rfl)
  (hs:Region.noSelect ops=true:=by kernel_rfl) (J:Region.free md ops l i=true:=by kernel_rfl) (hr:(Region.ready md ops l).contains i=true:=by kernel_rfl)
  (K:∀c a w,Q (.panic c) (a.put o.dst v) w→Q (.panic c) a w:=by exact fun _ _ _ h=>h) (O:YieldsIf P ops S o v a:=by refine Or.inl ⟨by rfl,?_⟩;intro w D;(try dsimp only at D);go_simp;all_goals with_reducible rfl) (hw:S w:=by assumption) (T:a.put (some s) v=B:=by(try simp only[Act.put,uq1,uq2,uq3]);rfl) (U:l.setIfInBounds i true=q:=by(try simp only[Array.replicate,uq1,uq2,uq3]);rfl):
  wpAnyH P md ops Q S (n+1) l a w:=wpAnyH_take hi hs J hr K O hw (by rw[I,T,U];exact h)
theorem gy(rs:List Nat){n:Nat}{l:Array Bool}{a:Act}{w:World}(h:AllReadyH P md ops Q S n l a w rs)(hr:Region.ready md ops l=rs:=by kernel_rfl)(q:rs≠[]:=by simp):wpAnyH P md ops Q S (n+1) l a w:=wpAnyH_ready hr q h
def bf(P:Program)(md:Region.Mode)(ops:Array Oper)(Q:Exit→Act→World→Prop)(S:World→Prop)(z:Nat)(n:Nat)(l:Array Bool)(a:Act)(w:World)(rs:List Nat):Prop:=
 ∀i∈rs,wpOp P ops Q i (fun b u=>(i≠z→S u)∧qy P md ops Q S z n (l.setIfInBounds i true) b u) a w
theorem bf.nil{n:Nat}{l:Array Bool}{a:Act}{w:World}:bf P md ops Q S z n l a w []:=fun _ h=>by cases h
theorem bf.cons{n:Nat}{l:Array Bool}{a:Act}{w:World}{i:Nat}{o:Oper}{rs:List Nat}(I:ops[i]?=some o)
  (h:∀q:Act→World→Prop,Shut (∀a w,S w→(S w→qy P md ops Q S z n (l.setIfInBounds i true) a w)→q a w)→if Region.wanted o (yielded ops a.tmps)=true then Oper.wp P o a w q Q else q (a.put o.dst undef) w)
  (hs:bf P md ops Q S z n l a w rs):bf P md ops Q S z n l a w (i::rs):=fun j B=>by
 rcases List.mem_cons.1 B with rfl|B
 ·exact wpOp_step I (fun q J=>h q (fun a w D K=>J a w ⟨fun _=>D,K D⟩))
 ·exact hs j B
theorem bf.last{n:Nat}{l:Array Bool}{a:Act}{w:World}{o:Oper}(B:ops[z]?=some o)
  (h:∀q:Act→World→Prop,Shut (∀a w,qy P md ops Q S z n (l.setIfInBounds z true) a w→q a w)→if Region.wanted o (yielded ops a.tmps)=true then Oper.wp P o a w q Q else q (a.put o.dst undef) w):
  bf P md ops Q S z n l a w [z]:=fun j D=>by
 obtain rfl:j=z:=by simpa using D
 exact wpOp_step B (fun q I=>h q (fun a w J=>I a w ⟨fun c=>absurd rfl c,J⟩))
theorem Ec{rs:List Nat}{n:Nat}{l:Array Bool}{a:Act}{w:World}(hr:Region.ready md ops l=rs)(q:rs≠[])
  (h:bf P md ops Q S z n l a w rs):qy P md ops Q S z (n+1) l a w:=⟨fun B=>absurd (hr▸B) q,hr▸h⟩
theorem dw(rs:List Nat){n:Nat}{l:Array Bool}{a:Act}{w:World}(h:bf P md ops Q S z n l a w rs)(hr:Region.ready md ops l=rs:=by kernel_rfl)(q:rs≠[]:=by simp):qy P md ops Q S z (n+1) l a w:=Ec hr q h
theorem fF{l:Array Bool}{a:Act}{w:World}(hr:Region.ready md ops l=[])(h:Q .normal a w):∀n,qy P md ops Q S z n l a w
 |0=>⟨hr,h⟩
 |_+1=>⟨fun _=>h,by rw[hr];simp⟩
theorem eB{id:Nat}{a:Act}{w:World}(S:World→Prop)(z:Nat)(hm:P.follows .mixedOrders=true)(q:S w.drew)
  (h:S w.drew→qy P .any ops Q S z ops.size (Array.replicate ops.size false) a w.drew):(Code.region id ops true).wp P Q a w:=
 wp_region_any hm (CS _ _ _ _ (h q))
end
end Go.Proofs.YtleafadpfeibfaaGreat
namespace Go.Proofs.YtleafadpfeibfaaGreat
open Go.RowKit
section
variable{P:Program}{ops:Array Oper}{Q:Exit→Act→World→Prop}
def Jy(ops:Array Oper):List Nat:=ops.toList.filterMap (·.dst)
def FrI(a0:Act)(h:List Nat)(a:Act):Prop:=a.defers=a0.defers∧a.tmps.size=a0.tmps.size∧∀k,k∉h→a.eval (.tmp k)=a0.eval (.tmp k)
def Iy(p:Nat→Oper→Prop):Nat→List Oper→Prop
 |_,[]=>True
 |k,o::os=>p k o∧Iy p (k+1) os
theorem Iy.at{p:Nat→Oper→Prop}:∀{k:Nat} {os:List Oper},Iy p k os→∀{i:Nat} {o:Oper},os[i]?=some o→p (k+i) o
 |_,[],_,_,_,h=>by simp at h
 |_,_::_,h,0,_,e=>by simp at e;subst e;exact h.1
 |k,_::_,h,i+1,_,e=>by
  have:=Iy.at h.2 (i:=i) (by simpa using e)
  rwa [Nat.add_assoc,Nat.add_comm 1 i] at this
structure InvI(P:Program)(ops:Array Oper)(S:Bool→World→Prop)(V:Bool→Nat→Value→World→Prop)(z:Nat)(a0:Act)(l:Array Bool)(a:Act)(w:World):Prop where
 size:l.size=ops.size
 fr:FrI a0 (Jy ops) a
 s:S (l.getD z false) w
 v:∀j o d,ops[j]?=some o→l.getD j false=true→o.dst=some d→V (l.getD z false) d (a.eval (.tmp d)) w
 z:l.getD z false=true→∀o,ops[z]?=some o→∀e∈o.after,Region.binds .any e=true→l.getD e.on false=true
end
end Go.Proofs.YtleafadpfeibfaaGreat
namespace Go.Proofs.YtleafadpfeibfaaGreat.fnExactReadsOf
open Go.ChangeShapes Go.WideShapes Go.RowKit
theorem JA:(laidOutB Tryz.pinned.checked.prog)=true:=by kernel_rfl
theorem FQ:((Rows.fnExactReadsOfRow.inPlace==Tryz.pinned.checked.prog.inPlace 3))=true:=by kernel_rfl
end Go.Proofs.YtleafadpfeibfaaGreat.fnExactReadsOf
namespace Go.Proofs.YtleafadpfeibfaaGreat.fnExactReadsOf
open Go.ChangeShapes Go.WideShapes Go.RowKit
theorem J3:((Rows.fnExactReadsOfRow.unfollowed==Tryz.pinned.checked.prog.unfollowed 3))=true:=by kernel_rfl
theorem Kc:((Rows.fnExactReadsOfRow.recurses==Tryz.pinned.checked.prog.recurses 3))=true:=by kernel_rfl
end Go.Proofs.YtleafadpfeibfaaGreat.fnExactReadsOf
