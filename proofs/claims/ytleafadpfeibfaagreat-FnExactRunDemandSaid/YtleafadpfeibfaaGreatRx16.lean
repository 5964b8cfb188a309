/- Contracts and laws towards ReadsOf, part 15 of 54. No condition. -/
import Derived.Test.YtleafadpfeibfaaGreatRx15
set_option maxHeartbeats 32000000
set_option maxRecDepth 10000
set_option linter.unusedVariables false
set_option linter.unusedSimpArgs false
namespace Go.Proofs.YtleafadpfeibfaaGreat
open Go.RowKit
variable{d:Nat}
def qz(c:UInt8):Prop:=(97:Int)≤(c.toNat:Int)∧(c.toNat:Int)≤122
def rV(c:UInt8):Prop:=(48:Int)≤(c.toNat:Int)∧(c.toNat:Int)≤57
def rQ:List ByteArray:=[⟨#[105,102]⟩,⟨#[116,104,101,110]⟩,⟨#[101,108,115,101]⟩,⟨#[116,114,117,101]⟩,⟨#[102,97,108,115,101]⟩,⟨#[108,105,116]⟩,⟨#[110,111,110,101]⟩,⟨#[115,101,108,102]⟩,⟨#[111,102]⟩,⟨#[109,97,120]⟩,⟨#[109,105,110]⟩,⟨#[119,105,116,104]⟩,⟨#[104,97,115]⟩]
def qw(s:ByteArray):Prop:=1≤s.size∧(∀k (h:k<s.size),qz s[k]∨(k≠0∧rV s[k]))
def dh(s:ByteArray):Prop:=qw s∧s.size≤8∧s∉rQ
noncomputable def pB(p:Prop):Bool:=@decide p (Classical.propDecidable _)
theorem bQ{p:Prop}(h:p):pB p=true:=by unfold pB;exact @decide_eq_true _ (Classical.propDecidable _) h
theorem bV{p:Prop}(h:¬p):pB p=false:=by unfold pB;exact @decide_eq_false _ (Classical.propDecidable _) h
theorem dx{p:Prop}:pB p=true↔p:=by unfold pB;exact @decide_eq_true_iff _ (Classical.propDecidable _)
theorem iO{p q:Prop}(h:p↔q):pB p=pB q:=by rw[Bool.eq_iff_iff,dx,dx,h]
theorem dh.ne{s:ByteArray}(h:dh s):s.toList.isEmpty=false:=by
 have h1:=h.1.1
 cases hs:s.toList with
 |nil=>
  have q:s=ByteArray.empty:=str_inj (by rw[hs,ByteArray.toList_eq];rfl);rw[q] at h1;exact absurd h1 (by decide)
 |cons c cs=>rfl
def mY(v k:Int):Int:=if k=1 then sat v else if k=2 then bits .and .i64 v 4095 else if k=3 then(if v=0 then 0 else 1) else if k=4 then(if 0≤v∧v≤999 then v else 0) else 0
def eG(v k:Int):Prop:=(1≤k∧k≤4)∧mY v k=v
def opT(o:Int):Int×Int×Int:=
 if 1≤o∧o≤5 then(1,1,1) else if 6≤o∧o≤8 then(2,2,2) else if o=9∨o=10 then(1,1,3) else if o=11 then(2,1,3) else if o=12 then(2,1,2) else(0,0,0)
def cZ:(d:Nat)→GE d→Nat
 |0,x=>PEmpty.elim x
 |d+1,x=>(fun y:aA d=>1+(y.2.2.2.2.2.2.map (cZ d)).sum) x
def iP:(d:Nat)→GE d→Nat
 |0,x=>PEmpty.elim x
 |d+1,x=>(fun y:aA d=>(y.2.2.2.2.2.2.map (iP d)).foldl max 0+1) x
def jh(p:{d:Nat}→aA d→Prop):(d:Nat)→GE d→Prop
 |0,x=>PEmpty.elim x
 |d+1,x=>(fun y:aA d=>p y∧∀z∈y.2.2.2.2.2.2,jh p d z) x
def gP:(d:Nat)→GE d→List ag
 |0,x=>PEmpty.elim x
 |d+1,x=>(fun y:aA d=>(if y.1=3 then[(y.2.2.1,y.2.2.2.2.2.1)] else[])++y.2.2.2.2.2.2.flatMap (gP d)) x
def eY(k:Int):Nat:=if k=4 then 2 else if k=5 then 3 else if k=8 then 1 else 0
def xJ(x:aA d):Prop:=x.2.2.2.2.2.2.length=eY x.1∧(x.1=3∨x.1=6∨x.2.2.1=0)∧(x.1=3∨x.1=8∨x.2.2.2.2.2.1=ByteArray.empty)∧(x.1=1∨x.1=4∨x.2.1=0)∧(x.1=1∨x.2.2.2.1=0)∧(x.1=8∨x.2.2.2.2.1=ByteArray.empty)
def jJ(x:aA d):Prop:=(1≤x.1∧x.1≤8)∧xJ x∧(x.1=1→(1≤x.2.2.2.1∧x.2.2.2.1≤3)∧eG x.2.1 x.2.2.2.1∧0≤x.2.1)∧(x.1=3→(0≤x.2.2.1∧x.2.2.1≤3)∧dh x.2.2.2.2.2.1)∧(x.1=6→0≤x.2.2.1∧x.2.2.1≤3)∧(x.1=4→1≤x.2.1∧x.2.1≤12)∧(x.1=8→dh x.2.2.2.2.1∧dh x.2.2.2.2.2.1)
def Da(x:aA d):Prop:=cZ (d+1) x≤24∧iP (d+1) x≤6∧jh (fun{d} (y:aA d)=>jJ y) (d+1) x
def KC(n:Int)(x:aA d):Prop:=jh (fun{d} (y:aA d)=>y.2.2.1≤n) (d+1) x
def ko(n:Int)(x:aA d):Prop:=Da x∧KC n x
def pW(a:aQ):Prop:=dh a.1∧(1≤a.2.1∧a.2.1≤4)∧(1≤a.2.2.1∧a.2.2.1≤3)∧(a.2.2.1=3→a.2.1=2∧a.2.2.2=false)∧(a.2.2.2=true→a.2.1=2)
def kM{α:Type}(f:α→ByteArray)(xs:List α):Prop:=∀i (h:i<xs.length),∀j (q:j<xs.length),j<i→f xs[j]≠f xs[i]
def Dv(s:bC):Prop:=dh s.1∧s.2.length≤4∧(∀a∈s.2,pW a)∧kM Prod.fst s.2
def j3(r:aW d):Prop:=dh r.1∧dh r.2.1∧r.2.2.1.length≤3∧r.2.2.2.2.2.length≤2∧(∀s∈r.2.2.1,dh s)∧
 (∀q∈r.2.2.2.2.1,dh q.1.2∧(0≤q.1.1∧q.1.1≤r.2.2.1.length)∧ko r.2.2.1.length q.2)∧∀c∈r.2.2.2.2.2,dh c.1∧dh c.2.1∧ko r.2.2.1.length c.2.2.1∧ko r.2.2.1.length c.2.2.2
def j6(r:aW d)(p:Int):ByteArray:=if p=0 then r.2.1 else if 1≤p∧p≤r.2.2.1.length then(nth r.2.2.1 (p - 1)).getD ByteArray.empty else ByteArray.empty
def Je(g:af d)(r:aW d)(p:Int):List aQ:=((bW g.1 (j6 r p)).getD dE).2
def kU(g:af d)(r:aW d)(p:Nat):List ag:=((Je g r (p:Int)).filter fun a=>decide (a.2.2.1=if p=0 then 2 else 1)).map fun a=>((p:Int),a.1)
def mg(g:af d)(r:aW d):List ag:=(List.range (r.2.2.1.length+1)).flatMap (kU g r)
def jf(g:af d)(r:aW d)(o:ag):Option aQ:=if 0≤o.1∧o.1≤r.2.2.1.length then ek (Je g r o.1) o.2 else none
def qp(g:af d)(r:aW d)(o:ag):Prop:=∃a,jf g r o=some a∧a.2.2.1=if o.1=0 then 1 else 2
def nH(r:aW d):List (aA d):=r.2.2.2.2.1.map (·.2)++r.2.2.2.2.2.flatMap fun c=>[c.2.2.1,c.2.2.2]
def pO(a:Option aQ):Int:=(a.getD dR).2.1
def dZ(g:af d)(r:aW d):(n:Nat)→GE n→Int
 |0,x=>PEmpty.elim x
 |n+1,x=>(fun y:aA n=>
  if y.1=1 then y.2.2.2.1
  else if y.1=2 then(if r.2.2.2.1 then 1 else 0)
  else if y.1=3 then pO (jf g r (y.2.2.1,y.2.2.2.2.2.1))
  else if y.1=4 then(match y.2.2.2.2.2.2 with|[a,b]=>if dZ g r n a=(opT y.2.1).1∧dZ g r n b=(opT y.2.1).2.1 then(opT y.2.1).2.2 else 0|_=>0)
  else if y.1=5 then(match y.2.2.2.2.2.2 with|[a,b,c]=>if dZ g r n a=3∧dZ g r n b=dZ g r n c then dZ g r n b else 0|_=>0)
  else if y.1=6 then(if 0≤y.2.2.1∧y.2.2.1≤r.2.2.1.length then 4 else 0)
  else if y.1=7 then 4
  else if y.1=8 then(match y.2.2.2.2.2.2 with|[a]=>if dZ g r n a=4 then pO (ek ((bW g.1 y.2.2.2.2.1).getD dE).2 y.2.2.2.2.2.1) else 0|_=>0)
  else 0) x
def kW(g:af d)(r:aW d):Prop:=
 (∀q∈r.2.2.2.2.1,dZ g r (d+1) q.2=pO (jf g r q.1))∧
 ∀c∈r.2.2.2.2.2,dZ g r (d+1) c.2.2.1=4∧dZ g r (d+1) c.2.2.2=2∧((ek ((bW g.1 c.1).getD dE).2 c.2.1).getD dR).2.2.1=3
theorem uP(x:Int)(w:World):Calls Tryz.prog 260 #[.int .u8 x] w fun e w'=>e=.returned (.bool (decide (97≤x)&&decide (x≤122)))∧w=w':=by
 go_in
 go_wp2
 all_goals
  go_ret;refine⟨aa ?_,rfl⟩;rw[Bool.eq_iff_iff];simp[*]
  try omega
theorem uj(x:Int)(w:World):Calls Tryz.prog 261 #[.int .u8 x] w fun e w'=>e=.returned (.bool (decide (48≤x)&&decide (x≤57)))∧w=w':=by
 go_in
 go_wp2
 all_goals
  go_ret;refine⟨aa ?_,rfl⟩;rw[Bool.eq_iff_iff];simp[*]
  try omega
theorem Kl:rQ.map ByteArray.toList=[[105,102],[116,104,101,110],[101,108,115,101],[116,114,117,101],[102,97,108,115,101],[108,105,116],[110,111,110,101],[115,101,108,102],[111,102],[109,97,120],[109,105,110],[119,105,116,104],[104,97,115]]:=by
 simp only[rQ,List.map_cons,List.map_nil,ByteArray.toList_eq]
theorem Kq(s:ByteArray):s∈rQ↔s.toList∈rQ.map ByteArray.toList:=⟨fun h=>List.mem_map.2 ⟨s,h,rfl⟩,fun h=>by
 obtain⟨y,q,e⟩:=List.mem_map.1 h;rw[←str_inj e];exact q⟩
set_option maxRecDepth 100000 in
theorem sK(s:ByteArray)(w:World):Qz 262 #[.string s] w (.bool (pB (s∈rQ))):=by
 have q:=Kz (Kq s);delta Qz;go_in;go_wp2_with fail
 all_goals
  go_ret;refine⟨aa ?_,Gr.refl _⟩;rw[iO q.o,Kl];clear q;generalize s.toList=L at*
  first
  |(exfalso;simp_all;done)
  |(refine(bQ ?_).symm;rw[eq_of_beq ‹(L==_)=true›];decide)
  |(refine(bV fun h=>?_).symm;simp_all;done)
 
theorem uY(c:UInt8)(w:World)(h:qz c):Calls Tryz.prog 260 #[.int .u8 (c.toNat:Int)] w fun e w'=>e=.returned (.bool true)∧w=w':=
 (uP _ w).mono fun e w' ⟨he,hw⟩=>⟨by rw[he,decide_eq_true h.1,decide_eq_true h.2];rfl,hw⟩
theorem qJ(c:UInt8)(w:World)(h:¬qz c):Calls Tryz.prog 260 #[.int .u8 (c.toNat:Int)] w fun e w'=>e=.returned (.bool false)∧w=w':=
 (uP _ w).mono fun e w' ⟨he,hw⟩=>⟨by
  have:(decide ((97:Int)≤(c.toNat:Int))&&decide ((c.toNat:Int)≤122))=false:=by
   rw[Bool.eq_false_iff];intro k;rw[Bool.and_eq_true,decide_eq_true_iff,decide_eq_true_iff] at k;exact h k
  rw[he,this],hw⟩
theorem Dg(c:UInt8)(w:World)(h:rV c):Calls Tryz.prog 261 #[.int .u8 (c.toNat:Int)] w fun e w'=>e=.returned (.bool true)∧w=w':=
 (uj _ w).mono fun e w' ⟨he,hw⟩=>⟨by rw[he,decide_eq_true h.1,decide_eq_true h.2];rfl,hw⟩
theorem D9(c:UInt8)(w:World)(h:¬rV c):Calls Tryz.prog 261 #[.int .u8 (c.toNat:Int)] w fun e w'=>e=.returned (.bool false)∧w=w':=
 (uj _ w).mono fun e w' ⟨he,hw⟩=>⟨by
  have:(decide ((48:Int)≤(c.toNat:Int))&&decide ((c.toNat:Int)≤57))=false:=by
   rw[Bool.eq_false_iff];intro k;rw[Bool.and_eq_true,decide_eq_true_iff,decide_eq_true_iff] at k;exact h k
  rw[he,this],hw⟩
theorem bG(s:ByteArray)(hs:s.size≤2097152)(w:World):Qz 240 #[.string s] w (.bool (pB (dh s))):=by
 delta Qz;go_in;go_wp2_with fail
 go_loopw [6] (fun T wr=>∃k:Nat,k≤s.size∧Ky (∀j (h:j<s.size),j<k→qz s[j]∨rV s[j])∧wr=w∧T=.int .i64 k) (fun T _=>s.size - (intOf T).toNat)
 case atStart=>exact⟨0,by omega,Kz (fun j h X=>by omega),rfl,rfl⟩
 case round=>
  obtain⟨k,hk,U,rfl,rfl⟩:=hrel
  by_cases Y:k<s.size
  ·have k0:(0:Int)≤(k:Int):=by omega
   have k1:(k:Int)<(s.size:Int):=by omega
   have iw:=zI1 k (by omega)
   by_cases q:qz s[k]
   ·have B:=Kz (show∀j (h:j<s.size),j<k+1→qz s[j]∨rV s[j] from fun j h hj=>by
     by_cases e:j=k
     ·subst e;exact .inl q
     ·exact U.o j h (by omega))
    have I:=Kz q;clear q
    go_wp2_with (first|(go_at_call 260;refine(uY _ _ I.o).mono ?_;rintro e w' ⟨rfl,rfl⟩))
    exact⟨⟨k+1,by omega,B,trivial,by go_num⟩,by simp[intOf];omega⟩
   ·by_cases J:rV s[k]
    ·have B:=Kz (show∀j (h:j<s.size),j<k+1→qz s[j]∨rV s[j] from fun j h hj=>by
      by_cases e:j=k
      ·subst e;exact .inr J
      ·exact U.o j h (by omega))
     have I:=Kz q;have V:=Kz J;clear q J
     go_wp2_with (first|(go_at_call 260;refine(qJ _ _ I.o).mono ?_;rintro e w' ⟨rfl,rfl⟩)|(go_at_call 261;refine(Dg _ _ V.o).mono ?_;rintro e w' ⟨rfl,rfl⟩))
     exact⟨⟨k+1,by omega,B,trivial,by go_num⟩,by simp[intOf];omega⟩
    ·have B:=Kz (bV (show¬dh s from fun h=>(h.1.2 k Y).elim q fun h=>J h.2))
     have I:=Kz q;have V:=Kz J;clear q J
     go_wp2_with (first|(go_at_call 260;refine(qJ _ _ I.o).mono ?_;rintro e w' ⟨rfl,rfl⟩)|(go_at_call 261;refine(D9 _ _ V.o).mono ?_;rintro e w' ⟨rfl,rfl⟩))
     go_ret;exact⟨aa B.o.symm,Gr.refl _⟩
  ·obtain rfl:k=s.size:=by omega
   by_cases K:1≤(s.size:Int)∧(s.size:Int)≤8
   ·have X:0<s.size:=by omega
    have D:=Kz K;clear K
    by_cases q:qz s[0]
    ·have B:=Kz (show pB (dh s)=!(pB (s∈rQ)) from by
      have Z:qw s:=⟨by omega,fun j h=>(U.o j h h).elim .inl fun J=>by
       by_cases e:j=0
       ·subst e;exact .inl q
       ·exact .inr ⟨e,J⟩⟩
      by_cases O:s∈rQ
      ·rw[bQ O,bV (fun h=>h.2.2 O)];rfl
      ·rw[bV O,bQ ⟨Z,by have:=D.o;omega,O⟩];rfl)
     have I:=Kz q;clear q
     go_wp2_with (first|(go_at_call 137;refine(kC _ _ _ _ D.o.1 D.o.2).mono ?_;rintro e w' ⟨rfl,x1,rfl⟩)|(go_at_call 260;refine(uY _ _ I.o).mono ?_;rintro e w' ⟨rfl,rfl⟩)|(go_at_call 262;refine(sK _ _).mono ?_;rintro e w' ⟨rfl,x2,rfl⟩))
     go_ret;exact⟨aa (by rw[B.o]),gd⟩
    ·have B:=Kz (bV (show¬dh s from fun h=>(h.1.2 0 X).elim q fun h=>h.1 rfl))
     have I:=Kz q;clear q
     go_wp2_with (first|(go_at_call 137;refine(kC _ _ _ _ D.o.1 D.o.2).mono ?_;rintro e w' ⟨rfl,x1,rfl⟩)|(go_at_call 260;refine(qJ _ _ I.o).mono ?_;rintro e w' ⟨rfl,rfl⟩))
     go_ret;exact⟨aa B.o.symm,gd⟩
   ·have B:=Kz (bV (show¬dh s from fun h=>K ⟨by have:=h.1.1;omega,by have:=h.2.1;omega⟩))
    have D:=Kz (show(s.size:Int)<1∨8<(s.size:Int) by omega);clear K
    go_wp2_with (first|(go_at_call 137;refine(mX _ _ _ _ D.o).mono ?_;rintro e w' ⟨rfl,x1,rfl⟩))
    go_ret;exact⟨aa B.o.symm,gd⟩
structure TestEq{α:Type}[Rd α][DecidableEq α](w:World)(fid:Nat)(xs ys:List α):Prop where
 fn:∀args W,(callFunc fid args).run Tryz.prog W=.ok (.enter fid args) W
 calls:∀x∈xs,∀y∈ys,∀(W:World) (fp fq:List Nat) (cs ds:Array Value),Gr w W→Rd.rd fp W cs.toList x→Rd.rd fq W ds.toList y→Qz fid #[.agg cs,.agg ds] W (.bool (decide (x=y)))
end Go.Proofs.YtleafadpfeibfaaGreat
