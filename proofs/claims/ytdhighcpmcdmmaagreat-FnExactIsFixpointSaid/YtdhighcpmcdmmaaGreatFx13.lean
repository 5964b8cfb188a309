/- Contracts and laws towards ReadsOf, part 14 of 54. No condition. -/
import Derived.Test.YtdhighcpmcdmmaaGreatFx11
set_option maxHeartbeats 32000000
set_option maxRecDepth 10000
set_option linter.unusedVariables false
set_option linter.unusedSimpArgs false
namespace Go.Proofs.YtdhighcpmcdmmaaGreat
open Go.RowKit
open _root_.List (getElem_mem length_map mem_append_left mem_append_right)
variable{d:Nat}
variable{w w0 w':World}{v:Value}{ns:List aT}{F:List Nat}{base:Nat}
theorem Tryz.Fj:(Tryz.prog.info? 81).map (fun i=>(i.zero,i.size,i.bytes))=some (some (.agg #[.string ByteArray.empty,.int .i64 0,.int .i64 0,.bool false]),4,40):=by kernel_rfl
theorem Hw:oM Bool:=fun _ _ _ _ h=>h.1
theorem Oa:oM aQ:=mU nI (mU nK (mU nK Hw))
theorem Mi{fx:List Nat}{cx:Array Value}(x:bC)(w:World)(Y:Rd.rd fx w cx.toList x)(Z:bM x≤1048576):
  Calls Tryz.prog 120 #[.agg cx] w (Made w x):=by
 obtain⟨D,q,I,J,ax,rfl,rfl,-,ae,ah,aj,au⟩:=Lg Y;clear Y
 have O:dP q≤1048576:=by
  have h:D.size+dP q≤1048576:=Z;omega
 have ai:q.length≤1048576:=Nat.le_trans (bT bI q) O;obtain⟨i0,hi,T,U,X⟩:=info_parts Tryz.Fj;have H:=Kz (And.intro hi (And.intro T (And.intro U X)));clear hi T U X Z O;go_in;go_wp2_with fail;generalize E:((w.alloc (.cells #[.string D,.slice I q.length J] 104)).alloc (.cells #[.string ⟨#[]⟩,.slice none 0 0] 104))=B;have gB:Gr w B:=gb E;obtain⟨ay,aL⟩:=kb2 E (w.heap.size) (.string D) (.slice I q.length J);have sB:B.heap.size=w.heap.size+2:=szB E;have EB:=Kz E;clear E;refine eB (fun w'=>Gr B w') 7 (by kernel_rfl) (Gr.drew (Gr.refl _)) (fun hU=>?_);refine bR 0 ?_;refine bR 3 ?_;refine bR 1 ?_;refine bR 4 ?_;refine dw [2] ?_;refine(bf.cons rfl (fun K s=>?_) bf.nil);go_simp;refine s.out _ _ gd (fun aN=>?_);clear s K
 try simp only[Act.put,uq1,uq2,uq3]
 refine dw [5] ?_
 refine(bf.cons rfl (fun K s=>?_) bf.nil);refine nD (w:=B) Oa gd (by rfl) _ _ _ (by rfl) 81 i0 _ _ Tryz.underlying102 H.o.1 H.o.2.1 H.o.2.2.1 H.o.2.2.2 rfl _ (by rfl) (bE.kF (w0:=B) (w:=B.drew) 81 (Nat.le_refl _) (by show _=B.heap.size;omega)) (by intro h;cases h) _ q (by rfl) (ah.gr (gB.trans gd)) ai (by omega) ?_;intro b c fq y hs hf hg hb _ _
 have HS:=Kz hs;have HF:=Kz hf;clear hs hf;refine s.out _ _ hg (fun aS=>?_);clear s K
 try simp only[Act.put,uq1,uq2,uq3]
 refine bR 6 ?_
 refine dw [7] ?_
 refine bf.last rfl (fun K s=>?_)
 obtain rfl:=EB.o;go_simp;refine s.out _ _ ?_;clear s K
 try simp only[Act.put,uq1,uq2,uq3]
 refine fF (by kernel_rfl) ?_ _
 go_wp2_with fail
 exact bodyPost_ret (v:=.agg #[.string D,.slice (some ⟨b,0,none⟩) q.length c])
  (by simp[results,Tryz.results120,go_sem]) rfl ⟨_,_,rfl,iQ D q ae (SlR.moved HS.o HF.o gd (by simp)),HF.o.of_le (by simp<;>omega),gd⟩
def qz(c:UInt8):Prop:=(97:Int)≤(c.toNat:Int)∧(c.toNat:Int)≤122
def rV(c:UInt8):Prop:=(48:Int)≤(c.toNat:Int)∧(c.toNat:Int)≤57
def rQ:List ByteArray:=[⟨#[105,102]⟩,⟨#[116,104,101,110]⟩,⟨#[101,108,115,101]⟩,⟨#[116,114,117,101]⟩,⟨#[102,97,108,115,101]⟩,⟨#[108,105,116]⟩,⟨#[110,111,110,101]⟩,⟨#[115,101,108,102]⟩,⟨#[111,102]⟩,⟨#[109,97,120]⟩,⟨#[109,105,110]⟩,⟨#[119,105,116,104]⟩,⟨#[104,97,115]⟩]
def qw(s:ByteArray):Prop:=1≤s.size∧(∀k (h:k<s.size),qz s[k]∨(k≠0∧rV s[k]))
def dh(s:ByteArray):Prop:=qw s∧s.size≤8∧s∉rQ
noncomputable def pB(p:Prop):Bool:=@decide p (Classical.propDecidable _)
theorem bQ{p:Prop}(h:p):pB p=true:=by unfold pB;exact @decide_eq_true _ (Classical.propDecidable _) h
theorem bz{p:Prop}(h:¬p):pB p=false:=by unfold pB;exact @decide_eq_false _ (Classical.propDecidable _) h
theorem dx{p:Prop}:pB p=true↔p:=by unfold pB;exact @decide_eq_true_iff _ (Classical.propDecidable _)
theorem iO{p q:Prop}(h:p↔q):pB p=pB q:=by rw[Bool.eq_iff_iff,dx,dx,h]
theorem dh.ne{s:ByteArray}(h:dh s):s.toList.isEmpty=false:=by
 have q:=h.1.1
 cases B:s.toList with
 |nil=>
  have D:s=ByteArray.empty:=str_inj (by rw[B,ByteArray.toList_eq];rfl);rw[D] at q;exact absurd q (by decide)
 |cons c cs=>rfl
def mY(v k:Int):Int:=if k=1 then sat v else if k=2 then bits .and .i64 v 4095 else if k=3 then(if v=0 then 0 else 1) else if k=4 then(if 0≤v∧v≤999 then v else 0) else 0
def eG(v k:Int):Prop:=(1≤k∧k≤4)∧mY v k=v
def opT(o:Int):Int×Int×Int:=
 if 1≤o∧o≤5 then(1,1,1) else if 6≤o∧o≤8 then(2,2,2) else if o=9∨o=10 then(1,1,3) else if o=11 then(2,1,3) else if o=12 then(2,1,2) else(0,0,0)
def cZ:(d:Nat)→GE d→Nat
 |0,x=>PEmpty.elim x
 |d+1,x=>(fun y:aA d=>1+(y.2.2.2.2.2.2.map (cZ d)).sum) x
def iP:(d:Nat)→GE d→Nat
 |0,x=>PEmpty.elim x
 |d+1,x=>(fun y:aA d=>(y.2.2.2.2.2.2.map (iP d)).foldl max 0+1) x
def jh(p:{d:Nat}→aA d→Prop):(d:Nat)→GE d→Prop
 |0,x=>PEmpty.elim x
 |d+1,x=>(fun y:aA d=>p y∧∀z∈y.2.2.2.2.2.2,jh p d z) x
def gP:(d:Nat)→GE d→List ag
 |0,x=>PEmpty.elim x
 |d+1,x=>(fun y:aA d=>(if y.1=3 then[(y.2.2.1,y.2.2.2.2.2.1)] else[])++y.2.2.2.2.2.2.flatMap (gP d)) x
def eY(k:Int):Nat:=if k=4 then 2 else if k=5 then 3 else if k=8 then 1 else 0
def xJ(x:aA d):Prop:=x.2.2.2.2.2.2.length=eY x.1∧(x.1=3∨x.1=6∨x.2.2.1=0)∧(x.1=3∨x.1=8∨x.2.2.2.2.2.1=ByteArray.empty)∧(x.1=1∨x.1=4∨x.2.1=0)∧(x.1=1∨x.2.2.2.1=0)∧(x.1=8∨x.2.2.2.2.1=ByteArray.empty)
def jJ(x:aA d):Prop:=(1≤x.1∧x.1≤8)∧xJ x∧(x.1=1→(1≤x.2.2.2.1∧x.2.2.2.1≤3)∧eG x.2.1 x.2.2.2.1∧0≤x.2.1)∧(x.1=3→(0≤x.2.2.1∧x.2.2.1≤3)∧dh x.2.2.2.2.2.1)∧(x.1=6→0≤x.2.2.1∧x.2.2.1≤3)∧(x.1=4→1≤x.2.1∧x.2.1≤12)∧(x.1=8→dh x.2.2.2.2.1∧dh x.2.2.2.2.2.1)
def Da(x:aA d):Prop:=cZ (d+1) x≤24∧iP (d+1) x≤6∧jh (fun{d} (y:aA d)=>jJ y) (d+1) x
def KC(n:Int)(x:aA d):Prop:=jh (fun{d} (y:aA d)=>y.2.2.1≤n) (d+1) x
def ko(n:Int)(x:aA d):Prop:=Da x∧KC n x
def pW(a:aQ):Prop:=dh a.1∧(1≤a.2.1∧a.2.1≤4)∧(1≤a.2.2.1∧a.2.2.1≤3)∧(a.2.2.1=3→a.2.1=2∧a.2.2.2=false)∧(a.2.2.2=true→a.2.1=2)
def kM{α:Type}(f:α→ByteArray)(xs:List α):Prop:=∀i (h:i<xs.length),∀j (q:j<xs.length),j<i→f xs[j]≠f xs[i]
def Dv(s:bC):Prop:=dh s.1∧s.2.length≤4∧(∀a∈s.2,pW a)∧kM Prod.fst s.2
def j3(r:aW d):Prop:=dh r.1∧dh r.2.1∧r.2.2.1.length≤3∧r.2.2.2.2.2.length≤2∧(∀s∈r.2.2.1,dh s)∧
 (∀q∈r.2.2.2.2.1,dh q.1.2∧(0≤q.1.1∧q.1.1≤r.2.2.1.length)∧ko r.2.2.1.length q.2)∧∀c∈r.2.2.2.2.2,dh c.1∧dh c.2.1∧ko r.2.2.1.length c.2.2.1∧ko r.2.2.1.length c.2.2.2
def j6(r:aW d)(p:Int):ByteArray:=if p=0 then r.2.1 else if 1≤p∧p≤r.2.2.1.length then(nth r.2.2.1 (p - 1)).getD ByteArray.empty else ByteArray.empty
def Je(g:af d)(r:aW d)(p:Int):List aQ:=((bW g.1 (j6 r p)).getD dE).2
def kU(g:af d)(r:aW d)(p:Nat):List ag:=((Je g r (p:Int)).filter fun a=>decide (a.2.2.1=if p=0 then 2 else 1)).map fun a=>((p:Int),a.1)
def mg(g:af d)(r:aW d):List ag:=(List.range (r.2.2.1.length+1)).flatMap (kU g r)
def jf(g:af d)(r:aW d)(o:ag):Option aQ:=if 0≤o.1∧o.1≤r.2.2.1.length then ek (Je g r o.1) o.2 else none
def qp(g:af d)(r:aW d)(o:ag):Prop:=∃a,jf g r o=some a∧a.2.2.1=if o.1=0 then 1 else 2
def nH(r:aW d):List (aA d):=r.2.2.2.2.1.map (·.2)++r.2.2.2.2.2.flatMap fun c=>[c.2.2.1,c.2.2.2]
def pO(a:Option aQ):Int:=(a.getD dR).2.1
def dZ(g:af d)(r:aW d):(n:Nat)→GE n→Int
 |0,x=>PEmpty.elim x
 |n+1,x=>(fun y:aA n=>
  if y.1=1 then y.2.2.2.1
  else if y.1=2 then(if r.2.2.2.1 then 1 else 0)
  else if y.1=3 then pO (jf g r (y.2.2.1,y.2.2.2.2.2.1))
  else if y.1=4 then(match y.2.2.2.2.2.2 with|[a,b]=>if dZ g r n a=(opT y.2.1).1∧dZ g r n b=(opT y.2.1).2.1 then(opT y.2.1).2.2 else 0|_=>0)
  else if y.1=5 then(match y.2.2.2.2.2.2 with|[a,b,c]=>if dZ g r n a=3∧dZ g r n b=dZ g r n c then dZ g r n b else 0|_=>0)
  else if y.1=6 then(if 0≤y.2.2.1∧y.2.2.1≤r.2.2.1.length then 4 else 0)
  else if y.1=7 then 4
  else if y.1=8 then(match y.2.2.2.2.2.2 with|[a]=>if dZ g r n a=4 then pO (ek ((bW g.1 y.2.2.2.2.1).getD dE).2 y.2.2.2.2.2.1) else 0|_=>0)
  else 0) x
def kW(g:af d)(r:aW d):Prop:=
 (∀q∈r.2.2.2.2.1,dZ g r (d+1) q.2=pO (jf g r q.1))∧
 ∀c∈r.2.2.2.2.2,dZ g r (d+1) c.2.2.1=4∧dZ g r (d+1) c.2.2.2=2∧((ek ((bW g.1 c.1).getD dE).2 c.2.1).getD dR).2.2.1=3
structure TestExpr(w:World)(fid:Nat)(cap:Array Value)(p:GE d→Bool)(xs:List (GE d)):Prop where
 fn:∀args W,(callFunc fid args).run Tryz.prog W=.ok (.enter fid args) W
 calls:∀y∈xs,∀(x:Ext) (fp:List Nat) (cs:Array Value),Rd.rd fp (w.ext x) cs.toList y→Calls Tryz.prog fid (#[.agg cs]++cap) (w.ext x) fun e w'=>e=.returned (.bool (p y))∧Gr (w.ext x) w'
theorem qO(fp:List Nat)(u:Value)(xs:List (GE d))(H:Nat)(cap:Array Value)(p:GE d→Bool)(w:World)(hu:SlR fp w u xs)(hf:TestExpr w H cap p xs):
  Qz 203 #[u,.func (.func H) #[] cap] w (.int .i64 (idxOf p xs)):=by
 obtain⟨a,ca,rfl,h1,h2,Y⟩:=hu.open;obtain⟨ah,s⟩:=hf;have HC:=Kz s;clear s;delta Qz;go_in
 go_wp2
 go_loopw [8,5] (fun J s5 wr=>∃k:Nat,k≤xs.length∧(∀j (h:j<xs.length),j<k→p xs[j]=false)∧Gr w wr∧J=.int .i64 k) (fun J s5 _=>xs.length - (intOf J).toNat)
 case atStart=>exact⟨0,by omega,by omega,Gr.refl w,rfl⟩
 case round=>
  obtain⟨k,hk,Z,⟨x,rfl⟩,rfl⟩:=hrel;have K:=Kz Z;clear Z
  by_cases B:k<xs.length
  ·obtain⟨b,off,rfl,hb⟩:=Y k B
   obtain⟨d1,rfl⟩:∃e,d=e+1:=by
    cases d with
    |zero=>exact PEmpty.elim (xs[k])
    |succ e=>exact⟨e,rfl⟩
   obtain⟨I,ae,q,D,-⟩:=hu.at B;have O:=D;generalize xs[k]=yq at D;obtain⟨q0,q1,q2,q3,q4,q5,q6⟩:=(yq:aA d1);obtain⟨ai,aj,E,-,-,-,-,-,-,-,au⟩:=aF (cs:=I.toArray) q0 q1 q2 q3 q4 q5 q6 (show Rd.rd (α:=aA d1) ae w I.toArray.toList _ from D);obtain rfl:=toL E;have z0:w.cell? ⟨b,off+k*7,none⟩=some (.int .i64 q0):=q 0 _ rfl;replace q:∀j v,_→w.cell? ⟨b,off+k*7+j,none⟩=some v:=q;have z1:=q 1 _ rfl;have z2:=q 2 _ rfl;have z3:=q 3 _ rfl;have z4:=q 4 _ rfl;have z5:=q 5 _ rfl;have z6:=q 6 _ rfl;clear Y E q D;go_wp2_with fail;refine(HC.o _ (getElem_mem B) _ _ _ (Rd.gr O gd)).mono ?_;rintro e w2 ⟨rfl,x2,rfl⟩
   go_wp2
   ·have T:p xs[k]=true:=by assumption
    go_ret;exact⟨aC (iH B T K.o).symm,gd⟩
   ·have T:p xs[k]=false:=by assumption
    refine⟨⟨k+1,by omega,fun j U ax=>?_,gd,by go_num⟩,by simp[intOf];omega⟩
    by_cases X:j<k
    ·exact K.o j U X
    ·obtain rfl:j=k:=by omega
     exact T
  ·go_wp2
   go_ret;exact⟨aC (gu fun j U=>K.o j U (by omega)).symm,gd⟩
theorem kK(fp:List Nat)(u:Value)(xs:List (GE d))(h:Nat)(cap:Array Value)(p:GE d→Bool)(w:World)(hu:SlR fp w u xs)(q:TestExpr w h cap p xs):
  Qz 137 #[u,.func (.func h) #[] cap] w (.bool (xs.any p)):=by
 delta Qz;go_in
 go_wp2_with (go_at_call 203;refine(qO fp _ _ _ _ _ _ hu q).mono ?_;rintro e w1 ⟨rfl,s⟩)
 go_ret;refine⟨aa ?_,by assumption⟩;rw[Bool.eq_iff_iff,decide_eq_true_iff];exact iW
structure TestEquation(w:World)(fid:Nat)(cap:Array Value)(p:(aX d)→Bool)(xs:List (aX d)):Prop where
 fn:∀args W,(callFunc fid args).run Tryz.prog W=.ok (.enter fid args) W
 calls:∀y∈xs,∀(x:Ext) (fp:List Nat) (cs:Array Value),Rd.rd fp (w.ext x) cs.toList y→Calls Tryz.prog fid (#[.agg cs]++cap) (w.ext x) fun e w'=>e=.returned (.bool (p y))∧Gr (w.ext x) w'
theorem nQ(fp:List Nat)(u:Value)(xs:List (aX d))(B:Nat)(cap:Array Value)(p:(aX d)→Bool)(w:World)(hu:SlR fp w u xs)(Y:TestEquation w B cap p xs):
  Qz 323 #[u,.func (.func B) #[] cap] w (.int .i64 (idxOf p xs)):=by
 obtain⟨a,ca,rfl,h1,h2,O⟩:=hu.open;obtain⟨au,q⟩:=Y;have Z:=Kz q;clear q;delta Qz;go_in
 go_wp2
 go_loopw [8,5] (fun D s5 wr=>∃k:Nat,k≤xs.length∧(∀j (h:j<xs.length),j<k→p xs[j]=false)∧Gr w wr∧D=.int .i64 k) (fun D s5 _=>xs.length - (intOf D).toNat)
 case atStart=>exact⟨0,by omega,by omega,Gr.refl w,rfl⟩
 case round=>
  obtain⟨k,hk,T,⟨x,rfl⟩,rfl⟩:=hrel;have E:=Kz T;clear T
  by_cases s:k<xs.length
  ·obtain⟨b,off,rfl,hb⟩:=O k s
   obtain⟨ax,ay,aL,aN,aS,aV,aZ,bg,bq,ae,ah,ai,bB,U,X,-,-,-,-,-,-,-,-,aj,-,-,z0,z1,z2,z3,z4,z5,z6,z7,z8,-⟩:=KY hu s (Gr.refl _);have H:=Lb U X;clear O;go_wp2_with fail;refine(Z.o _ (getElem_mem s) _ _ _ (Rd.gr H gd)).mono ?_;rintro e w2 ⟨rfl,x2,rfl⟩
   go_wp2
   ·have I:p xs[k]=true:=by assumption
    go_ret;exact⟨aC (iH s I E.o).symm,gd⟩
   ·have I:p xs[k]=false:=by assumption
    refine⟨⟨k+1,by omega,fun j J bD=>?_,gd,by go_num⟩,by simp[intOf];omega⟩
    by_cases K:j<k
    ·exact E.o j J K
    ·obtain rfl:j=k:=by omega
     exact I
  ·go_wp2
   go_ret;exact⟨aC (gu fun j J=>E.o j J (by omega)).symm,gd⟩
theorem jO(fp:List Nat)(u:Value)(xs:List (aX d))(h:Nat)(cap:Array Value)(p:(aX d)→Bool)(w:World)(hu:SlR fp w u xs)(q:TestEquation w h cap p xs):
  Qz 288 #[u,.func (.func h) #[] cap] w (.bool (xs.any p)):=by
 delta Qz;go_in
 go_wp2_with (go_at_call 323;refine(nQ fp _ _ _ _ _ _ hu q).mono ?_;rintro e w1 ⟨rfl,s⟩)
 go_ret;refine⟨aa ?_,by assumption⟩;rw[Bool.eq_iff_iff,decide_eq_true_iff];exact iW
structure TestOccurrence(w:World)(fid:Nat)(cap:Array Value)(p:ag→Bool)(xs:List ag):Prop where
 fn:∀args W,(callFunc fid args).run Tryz.prog W=.ok (.enter fid args) W
 calls:∀y∈xs,∀(x:Ext) (fp:List Nat) (cs:Array Value),Rd.rd fp (w.ext x) cs.toList y→Calls Tryz.prog fid (#[.agg cs]++cap) (w.ext x) fun e w'=>e=.returned (.bool (p y))∧Gr (w.ext x) w'
theorem mR(fp:List Nat)(u:Value)(xs:List ag)(B:Nat)(cap:Array Value)(p:ag→Bool)(w:World)(hu:SlR fp w u xs)(Y:TestOccurrence w B cap p xs):
  Qz 208 #[u,.func (.func B) #[] cap] w (.int .i64 (idxOf p xs)):=by
 obtain⟨a,ca,rfl,h1,h2,O⟩:=hu.open;obtain⟨ae,q⟩:=Y;have Z:=Kz q;clear q;delta Qz;go_in
 go_wp2
 go_loopw [8,5] (fun D s5 wr=>∃k:Nat,k≤xs.length∧(∀j (h:j<xs.length),j<k→p xs[j]=false)∧Gr w wr∧D=.int .i64 k) (fun D s5 _=>xs.length - (intOf D).toNat)
 case atStart=>exact⟨0,by omega,by omega,Gr.refl w,rfl⟩
 case round=>
  obtain⟨k,hk,T,⟨x,rfl⟩,rfl⟩:=hrel;have E:=Kz T;clear T
  by_cases s:k<xs.length
  ·obtain⟨b,off,rfl,hb⟩:=O k s
   obtain⟨q0,q1,U,X,-,-,z0,z1,-⟩:=Le hu s (Gr.refl _);have H:=Lb U X;clear O;go_wp2_with fail;refine(Z.o _ (getElem_mem s) _ _ _ (Rd.gr H gd)).mono ?_;rintro e w2 ⟨rfl,x2,rfl⟩
   go_wp2
   ·have I:p xs[k]=true:=by assumption
    go_ret;exact⟨aC (iH s I E.o).symm,gd⟩
   ·have I:p xs[k]=false:=by assumption
    refine⟨⟨k+1,by omega,fun j J ah=>?_,gd,by go_num⟩,by simp[intOf];omega⟩
    by_cases K:j<k
    ·exact E.o j J K
    ·obtain rfl:j=k:=by omega
     exact I
  ·go_wp2
   go_ret;exact⟨aC (gu fun j J=>E.o j J (by omega)).symm,gd⟩
theorem jo(fp:List Nat)(u:Value)(xs:List ag)(h:Nat)(cap:Array Value)(p:ag→Bool)(w:World)(hu:SlR fp w u xs)(q:TestOccurrence w h cap p xs):
  Qz 211 #[u,.func (.func h) #[] cap] w (.bool (xs.any p)):=by
 delta Qz;go_in
 go_wp2_with (go_at_call 208;refine(mR fp _ _ _ _ _ _ hu q).mono ?_;rintro e w1 ⟨rfl,s⟩)
 go_ret;refine⟨aa ?_,by assumption⟩;rw[Bool.eq_iff_iff,decide_eq_true_iff];exact iW
abbrev uX(base:Nat):=Int×Int×Int×Int×ByteArray×fZ base 3
def BC{base:Nat}(x:uX base):aT:=(x.1,x.2.1,x.2.2.1,x.2.2.2.1,x.2.2.2.2.1,x.2.2.2.2.2.o)
theorem uH{fp:List Nat}{cs:List Value}(q0 q1 q2 q3:Int)(q4:ByteArray)(q5:fZ base 3)(h:Rd.rd (α:=uX base) fp w cs (q0,q1,q2,q3,q4,q5)):
  ∃v,cs=[.int .i64 q0,.int .i64 q1,.int .i64 q2,.int .i64 q3,.string q4,v]∧fp=v.ownBlock.toList∧(Lit.int .i64 q0).wf=true∧(Lit.int .i64 q1).wf=true∧(Lit.int .i64 q2).wf=true∧(Lit.int .i64 q3).wf=true∧q4.size≤maxLen∧Rd.rd v.ownBlock.toList w [v] q5:=by
 obtain⟨_,_,_,_,rfl,rfl,⟨rfl,rfl,q⟩,⟨_,_,_,_,rfl,rfl,⟨rfl,rfl,s⟩,⟨_,_,_,_,rfl,rfl,⟨rfl,rfl,B⟩,⟨_,_,_,_,rfl,rfl,⟨rfl,rfl,D⟩,⟨_,_,_,_,rfl,rfl,⟨rfl,rfl,E⟩,⟨v,rfl,H,I,rfl⟩⟩⟩⟩⟩⟩:=h;exact⟨v,rfl,by simp,q,s,B,D,E,v,rfl,H,I,rfl⟩
theorem qH(q0 q1 q2 q3:Int)(q4:ByteArray){q5:fZ base 3}(q:(Lit.int .i64 q0).wf=true)(s:(Lit.int .i64 q1).wf=true)(B:(Lit.int .i64 q2).wf=true)(D:(Lit.int .i64 q3).wf=true)(E:q4.size≤maxLen)(h:Rd.rd v.ownBlock.toList w [v] q5):
  Rd.rd (α:=uX base) v.ownBlock.toList w [.int .i64 q0,.int .i64 q1,.int .i64 q2,.int .i64 q3,.string q4,v] (q0,q1,q2,q3,q4,q5):=by
 have:v.ownBlock.toList=[]++([]++([]++([]++([]++v.ownBlock.toList)))):=by simp
 rw[this];exact⟨_,_,_,_,rfl,rfl,⟨rfl,rfl,q⟩,⟨_,_,_,_,rfl,rfl,⟨rfl,rfl,s⟩,⟨_,_,_,_,rfl,rfl,⟨rfl,rfl,B⟩,⟨_,_,_,_,rfl,rfl,⟨rfl,rfl,D⟩,⟨_,_,_,_,rfl,rfl,⟨rfl,rfl,E⟩,by simpa using h⟩⟩⟩⟩⟩
def lC(w0 w:World)(v:Value)(F:List Nat)(ns:List aT):Prop:=
 ∃(fps:List (List Nat)) (xs:List (uX w0.heap.size)),bE w0 107 w v fps xs∧xs.map BC=ns∧fps.flatten.Nodup∧(∀b∈fps.flatten,w0.heap.size≤b)∧F=v.ownBlock.toList++fps.flatten
theorem lC.nil(w0 w:World):lC w0 w (.slice none 0 0) [] []:=⟨[],[],bE.nil _ _ _,rfl,by simp,by simp,rfl⟩
theorem lC.lt(h:lC w0 w v F ns):∀b∈F,b<w.heap.size:=by
 obtain⟨fps,xs,s,B,D,E,rfl⟩:=h;intro b q
 rcases List.mem_append.1 q with q|q
 ·exact(s.base b (by simpa using q)).2
 ·exact s.lt b q
theorem lC.ge(h:lC w0 w v F ns):∀b∈F,w0.heap.size≤b:=by
 obtain⟨fps,xs,s,D,E,B,rfl⟩:=h;intro b q
 rcases List.mem_append.1 q with q|q
 ·exact(s.base b (by simpa using q)).1
 ·exact B b q
theorem lC.own(h:lC w0 w v F ns):∀b∈v.ownBlock.toList,b∈F:=by
 obtain⟨fps,xs,s,B,D,E,rfl⟩:=h;intro b q
 exact mem_append_left _ q
theorem lC.form(h:lC w0 w v F ns):∃a c,v=.slice a ns.length c:=by
 obtain⟨fps,xs,q,rfl,-⟩:=h;rw[length_map];exact q.form
theorem lC.wr{fq:List Nat}(h:lC w0 w v F ns)(hw:Wr fq w w')(s:∀b∈F,b∉fq):lC w0 w' v F ns:=by
 obtain⟨fps,xs,B,D,E,H,rfl⟩:=h;exact⟨fps,xs,B.wr hw (fun b q=>s b (mem_append_right _ q)) (fun b q=>s b (mem_append_left _ (by simpa using q))),D,E,H,rfl⟩
theorem lC.gr(h:lC w0 w v F ns)(q:Gr w w'):lC w0 w' v F ns:=h.wr (q.eF []) (by simp)
theorem EM{xs:List (uX base)}(h:xs.map BC=ns){i:Nat}(y:uX base):(xs.set i y).map BC=ns.set i (BC y):=by
 rw[←h,List.map_set]
theorem lC.at(h:lC w0 w v F ns){i:Nat}(hi:i<ns.length):
  ∃g cap B J,v=.slice (some ⟨g,0,none⟩) ns.length cap∧g<w.heap.size∧w0.heap.size≤g∧g∈F∧(∀j u,[Value.int .i64 ns[i].1,.int .i64 ns[i].2.1,.int .i64 ns[i].2.2.1,.int .i64 ns[i].2.2.2.1,.string ns[i].2.2.2.2.1,B][j]?=some u→w.cell? ⟨g,i*6+j,none⟩=some u)∧(∀o,w.frozen? ⟨g,o,none⟩=false)∧
   bE (α:=Int) w0 3 w B J ns[i].2.2.2.2.2∧J.flatten=[]∧g∉B.ownBlock.toList∧(∀b∈B.ownBlock.toList,b∈F)∧
   (∀U s Z,Wr B.ownBlock.toList w U→bE (α:=Int) w0 3 U s (J++[[]]) Z→(s.ownBlock=B.ownBlock∨∃n,s.ownBlock=some n∧w.heap.size≤n)→
    ∃F',lC w0 (U.setCell ⟨g,i*6+5,none⟩ s) v F' (ns.set i (ns[i].1,ns[i].2.1,ns[i].2.2.1,ns[i].2.2.2.1,ns[i].2.2.2.2.1,Z))∧∀b∈F',b∈F∨w.heap.size≤b)∧
   (∀y,(Lit.int .i64 y).wf=true→lC w0 (w.setCell ⟨g,i*6,none⟩ (.int .i64 y)) v F (ns.set i (y,ns[i].2))):=by
 obtain⟨fps,xs,hO,rfl,ae,aj,rfl⟩:=h;have bB:i<xs.length:=by simpa using hi
 have hbase:=hO.base;have bD:=hO.apart;have bg:=hO.lt;obtain⟨g,cap,cs,fq,rfl,h1,h2,h3,h4,h5,h6,h7,h8⟩:=hO.upd bB;obtain⟨K,T⟩:=List.getElem?_eq_some_iff.1 h4;have O:(xs.map BC)[i]=BC xs[i]:=by simp
 obtain⟨X,hX⟩:=nm (xs[i]);rw[←hX] at O h6;obtain⟨q0,q1,q2,q3,q4,q5⟩:=X;obtain⟨B,rfl,D,bH,au,ax,ay,aL,aN⟩:=uH q0 q1 q2 q3 q4 q5 h6;obtain⟨bK,J,e1,-,bL,bN⟩:=fZ.zP aN;obtain rfl:B=bK:=by simpa using e1
 have hsub:∀c∈fq,c∈fps.flatten:=fun c hc=>List.mem_flatten.2 ⟨_,getElem_mem K,by rw[T];exact hc⟩
 have E:g∉fq:=fun hm=>bD g rfl (hsub g hm)
 have H:Rd.n (uX w0.heap.size)=6:=rfl
 have aS:∀k (hk:k<fps.length),k≠i→∀c∈fps[k],c∉fq:=fun k hk bV c hc ah=>by
  have hp:=List.pairwise_iff_getElem.1 (List.pairwise_flatten.1 ae).2;rw[←T] at ah;rcases Nat.lt_or_gt_of_ne bV with cK|cO
  ·exact hp k i hk K cK c hc c ah rfl
  ·exact hp i k K hk cO c ah c hc rfl
 rw[H] at h5;refine⟨g,cap,B,J,by rw[length_map],h2,h1,by simp[Value.ownBlock],?_,h7,?_,bN,by rw[←D];exact E,fun b q=>mem_append_right _ (hsub b (by rw[D];exact q)),fun U s Z hw aV dz=>?_,fun y hy=>?_⟩
 ·rw[O];exact h5
 ·rw[O];exact bL
 ·rw[←D] at hw
  have I:∀c∈s.ownBlock.toList,c∈fq∨w.heap.size≤c:=by
   intro c hc
   rcases dz with e9|⟨n,e9,H⟩
   ·rw[e9,←D] at hc;exact .inl hc
   ·rw[e9] at hc
    simp at hc;subst hc;exact .inr H
  have aZ:g∉s.ownBlock.toList:=fun hm=>by
   rcases I g hm with h|h
   ·exact E h
   ·omega
  have ai:Rd.rd s.ownBlock.toList (U.setCell ⟨g,i*6+5,none⟩ s) [s] (fZ.mk w0.heap.size 3 Z):=Rd.wr aV.xq ((Wr.refl [g] _).setCell (by simp) s) (fun c hc hm=>by simp at hm;subst hm;exact aZ hc);have hr:=qH q0 q1 q2 q3 q4 bH au ax ay aL ai;have Y:=h8 U 5 s s.ownBlock.toList (q0,q1,q2,q3,q4,fZ.mk w0.heap.size 3 Z) hw E aS (by rw[H];omega) aZ (by rw[H];exact hr);rw[H] at Y;refine⟨_,⟨_,_,Y,?_,oU ae K (by cases s.ownBlock<;>simp) fun c hc=>?_,fun b q=>?_,rfl⟩,fun b q=>?_⟩
  ·rw[EM rfl,O];rfl
  ·rcases I c hc with h|h
   ·rw[←T] at h;exact .inl h
   ·exact .inr fun hm=>by have:=bg c hm;omega
  ·rcases gq q with q|q
   ·exact aj b q
   ·exact(aV.base b (by simpa using q)).1
  ·rcases List.mem_append.1 q with q|q
   ·exact .inl (mem_append_left _ q)
   ·rcases gq q with q|q
    ·exact .inl (mem_append_right _ q)
    ·rcases I b q with h|h
     ·exact .inl (mem_append_right _ (hsub b h))
     ·exact .inr h
 ·have ai:Rd.rd B.ownBlock.toList (w.setCell ⟨g,i*6+0,none⟩ (.int .i64 y)) [B] q5:=Rd.wr aN ((Wr.refl [g] _).setCell (by simp) _) (fun c hc hm=>by simp at hm;subst hm;rw[←D] at hc;exact E hc)
  have hr:=qH y q1 q2 q3 q4 hy au ax ay aL ai;have Y:=h8 w 0 (.int .i64 y) fq (y,q1,q2,q3,q4,q5) (Wr.refl _ _) E aS (by rw[H];omega) E (by rw[H,D];exact hr);rw[H,Nat.add_zero] at Y;have bq:fps.set i fq=fps:=by rw[←T];exact List.set_getElem_self K
  rw[bq] at Y;refine⟨_,_,Y,?_,ae,aj,rfl⟩;rw[EM rfl,O];rfl
theorem lC.read(h:lC w0 w v F ns)(hl:ns.length≤bn)(O:∀x∈ns,x.2.2.2.2.2.length≤bn):
  ∃fq,SlR fq w v ns∧aY w0 fq∧∀b∈fq,b∈F:=by
 obtain⟨fps,xs,K,rfl,T,U,rfl⟩:=h;have J:=K.fl;have hbase:=K.base;obtain⟨⟨B,ho,I⟩,Y⟩:=K
 have each:∀i,∃fq:List Nat,∀(h:i<xs.length) (D:i<B.length) (E:i<fps.length),Rd.rd (α:=aT) fq w B[i] (BC xs[i])∧fq.Sublist fps[i]:=by
  intro i
  by_cases q:i<xs.length
  ·have D:i<B.length:=by rw[I.cl];exact q
   have E:i<fps.length:=by rw[J];exact q
   have Z:=I.rd i q D E;have h4:(BC xs[i]).2.2.2.2.2.length≤bn:=O _ (List.mem_map.2 ⟨_,getElem_mem q,rfl⟩);obtain⟨X,hX⟩:=nm (xs[i]);rw[←hX] at Z h4;obtain⟨q0,q1,q2,q3,q4,q5⟩:=X;obtain⟨vj,e,ae,ah,ai,aj,au,ax,ay⟩:=uH q0 q1 q2 q3 q4 q5 Z;obtain⟨fq,⟨v5,e5,hr⟩,s⟩:=fZ.read ay h4;obtain rfl:vj=v5:=by simpa using e5
   refine⟨[]++([]++([]++([]++([]++fq)))),fun _ _ _=>⟨?_,?_⟩⟩
   ·rw[e,←hX];exact tF q0 q1 q2 q3 q4 _ ah ai aj au ax hr
   ·rw[ae];simpa using s
  ·exact⟨[],fun h=>absurd h q⟩
 obtain⟨f,hf⟩:=Classical.axiomOfChoice each
 have hsub:∀(l:List (List Nat)) (g:Nat→List Nat),(∀i (h:i<l.length),(g i).Sublist l[i])→((List.range l.length).map g).flatten.Sublist l.flatten:=by
  intro l
  induction l with
  |nil=>intro g _;simp
  |cons a l ih=>
   intro g hg
   rw[List.length_cons,List.range_succ_eq_map,List.map_cons,List.flatten_cons,List.flatten_cons,List.map_map];exact(hg 0 (by simp)).append (ih (g∘Nat.succ) fun i q=>hg (i+1) (by simpa using q))
 have s:=hsub fps f fun i q=>(hf i (by omega) (by rw[I.cl];omega) q).2
 have aL:bE (α:=aT) w0 107 w v ((List.range fps.length).map f) (xs.map BC):=by
  refine⟨⟨B,by rw[length_map];exact ho,⟨by simp[I.cl],by simp[J],fun i h0 D E=>?_⟩⟩,fun b H hm=>Y b H (s.subset hm)⟩;have aN:i<xs.length:=by simpa using h0
  simpa using(hf i aN D (by omega)).1
 obtain⟨fq,D,E⟩:=aL.slR hl;refine⟨fq,D,?_,?_⟩
 ·rcases E with⟨_,rfl⟩|⟨b,H,rfl⟩
  ·exact aY.nil _
  ·refine⟨List.nodup_cons.2 ⟨fun hm=>Y b H (s.subset hm),s.nodup T⟩,fun c hc=>?_⟩
   rcases List.mem_cons.1 hc with rfl|hc
   ·exact(hbase _ H).1
   ·exact U c (s.subset hc)
 ·rcases E with⟨_,rfl⟩|⟨b,H,rfl⟩
  ·simp
  ·intro c hc
   rcases List.mem_cons.1 hc with rfl|hc
   ·exact mem_append_left _ (by simpa using H)
   ·exact mem_append_right _ (s.subset hc)
theorem bE.FB{α:Type}[Rd α](e:TypeId)(h:w0.heap.size≤w.heap.size){g:Nat}(B:g=w.heap.size){cs:Array Value}{fq:List Nat}{x:α}(q:Rd.rd fq w cs.toList x):bE w0 e (w.alloc (.cells cs e)) (.slice (some ⟨g,0,none⟩) 1 1) [fq] [x]:=by
 subst B;refine⟨⟨[cs.toList],?_,(Els.one q).mono (((Gr.refl w).alloc _).lN (by simpa using Rd.lt q))⟩,fun b s hm=>?_⟩
 ·have D:=Rd.len q
  have:=World.ownsRow_lit (base:=w0.heap.size) (e:=e) (size:=Rd.n α) w cs 1 h (by unfold maxLen;omega) (by simpa using D);simpa using this
 ·injection s with s
  subst s;exact Nat.lt_irrefl _ (Rd.lt q _ (by simpa using hm))
theorem lC.FB(h:w0.heap.size≤w.heap.size){g:Nat}(I:g=w.heap.size){q0 q1 q2 q3:Int}{q4:ByteArray}{q5:List Int}{c:Value}{q:List (List Nat)}(s:(Lit.int .i64 q0).wf=true)(B:(Lit.int .i64 q1).wf=true)(D:(Lit.int .i64 q2).wf=true)(E:(Lit.int .i64 q3).wf=true)(H:q4.size≤maxLen)(hc:bE (α:=Int) w0 3 w c q q5):
  lC w0 (w.alloc (.cells #[.int .i64 q0,.int .i64 q1,.int .i64 q2,.int .i64 q3,.string q4,c] 107)) (.slice (some ⟨g,0,none⟩) 1 1) (g::c.ownBlock.toList) [(q0,q1,q2,q3,q4,q5)]:=by
 have J:=hc.base;refine⟨[c.ownBlock.toList],[(q0,q1,q2,q3,q4,fZ.mk w0.heap.size 3 q5)],bE.FB (α:=uX w0.heap.size) 107 h I (qH q0 q1 q2 q3 q4 s B D E H hc.xq),rfl,?_,?_,?_⟩
 ·cases c.ownBlock<;>simp
 ·intro b hm
  exact(J b (by simpa using hm)).1
 ·simp[Value.ownBlock]
theorem Wr.vZ{fp:List Nat}(h:Wr fp w w'){b o:Nat}{r:Bool}(hc:w.frozen? ⟨b,o,none⟩=r)(q:b<w.heap.size)(s:b∉fp):w'.frozen? ⟨b,o,none⟩=r:=
 (World.frozen?_of_block (a:=⟨b,o,none⟩) (h.block b q s)).trans hc
structure TestInstance(w:World)(fid:Nat)(cap:Array Value)(p:av→Bool)(xs:List av):Prop where
 fn:∀args W,(callFunc fid args).run Tryz.prog W=.ok (.enter fid args) W
 calls:∀y∈xs,∀(x:Ext) (fp:List Nat) (cs:Array Value),Rd.rd fp (w.ext x) cs.toList y→Calls Tryz.prog fid (#[.agg cs]++cap) (w.ext x) fun e w'=>e=.returned (.bool (p y))∧Gr (w.ext x) w'
theorem LA(fp:List Nat)(u:Value)(xs:List av)(B:Nat)(cap:Array Value)(p:av→Bool)(w:World)(hu:SlR fp w u xs)(Y:TestInstance w B cap p xs):
  Qz 149 #[u,.func (.func B) #[] cap] w (.int .i64 (idxOf p xs)):=by
 obtain⟨a,ca,rfl,h1,h2,O⟩:=hu.open;obtain⟨ae,q⟩:=Y;have Z:=Kz q;clear q;delta Qz;go_in
 go_wp2
 go_loopw [8,5] (fun D s5 wr=>∃k:Nat,k≤xs.length∧(∀j (h:j<xs.length),j<k→p xs[j]=false)∧Gr w wr∧D=.int .i64 k) (fun D s5 _=>xs.length - (intOf D).toNat)
 case atStart=>exact⟨0,by omega,by omega,Gr.refl w,rfl⟩
 case round=>
  obtain⟨k,hk,T,⟨x,rfl⟩,rfl⟩:=hrel;have E:=Kz T;clear T
  by_cases s:k<xs.length
  ·obtain⟨b,off,rfl,hb⟩:=O k s
   obtain⟨q0,q1,U,X,-,-,z0,z1,-⟩:=Lh hu s (Gr.refl _);have H:=Lb U X;clear O;go_wp2_with fail;refine(Z.o _ (getElem_mem s) _ _ _ (Rd.gr H gd)).mono ?_;rintro e w2 ⟨rfl,x2,rfl⟩
   go_wp2
   ·have I:p xs[k]=true:=by assumption
    go_ret;exact⟨aC (iH s I E.o).symm,gd⟩
   ·have I:p xs[k]=false:=by assumption
    refine⟨⟨k+1,by omega,fun j J ah=>?_,gd,by go_num⟩,by simp[intOf];omega⟩
    by_cases K:j<k
    ·exact E.o j J K
    ·obtain rfl:j=k:=by omega
     exact I
  ·go_wp2
   go_ret;exact⟨aC (gu fun j J=>E.o j J (by omega)).symm,gd⟩
theorem F6(fp:List Nat)(u:Value)(xs:List av)(h:Nat)(cap:Array Value)(p:av→Bool)(w:World)(hu:SlR fp w u xs)(q:TestInstance w h cap p xs):
  Qz 76 #[u,.func (.func h) #[] cap] w (.bool (xs.any p)):=by
 delta Qz;go_in
 go_wp2_with (go_at_call 149;refine(LA fp _ _ _ _ _ _ hu q).mono ?_;rintro e w1 ⟨rfl,s⟩)
 go_ret;refine⟨aa ?_,by assumption⟩;rw[Bool.eq_iff_iff,decide_eq_true_iff];exact iW
end Go.Proofs.YtdhighcpmcdmmaaGreat
