/- Contracts and laws towards ReadsOf, part 17 of 54. No condition. -/
import Derived.Test.YtleafadpfeibfaaGreatRx09
import Derived.Deep.LoopGhost
import Derived.Test.YtleafadpfeibfaaGreatRx03
import Derived.Laws.IdiomStrings
import Derived.Test.YtleafadpfeibfaaGreatRx07
set_option maxHeartbeats 32000000
set_option maxRecDepth 10000
set_option linter.unusedVariables false
set_option linter.unusedSimpArgs false
namespace Go.Proofs.YtleafadpfeibfaaGreat
open Go.RowKit
open _root_.List (length_cons nil_append take_length)
def dig(n:Nat):List UInt8:=if _h:n=0 then[] else dig (n / 10)++[UInt8.ofNat (48+n % 10)]
termination_by n
decreasing_by omega
theorem Cx:dig 0=[]:=by rw[dig];rfl
theorem EY{n:Nat}(h:0<n):dig n=dig (n / 10)++[UInt8.ofNat (48+n % 10)]:=by rw[dig,dif_neg (by omega)]
theorem IK(n:Nat):(dig n).length≤n:=by
 induction n using Nat.strongRecOn with
 |_ n q=>
  by_cases h:n=0
  ·subst h;simp[Cx]
  ·rw[EY (by omega)]
   have:=q (n / 10) (by omega);simp;omega
def mtx(k:Int):ByteArray:=if k≤0 then⟨#[109,48]⟩ else⟨(109::dig k.toNat).toArray⟩
theorem fK(k:Int)(h:k≤140737488351231):(mtx k).size≤maxLen:=by
 unfold mtx maxLen
 split
 ·show 2≤_;omega
 ·have:=IK k.toNat
  show(109::dig k.toNat).toArray.size≤_
  simp;omega
theorem dz(k:Int)(w:World)(Z:0<k)(h1:k≤4398046511104):
  Qz 52 #[.int .i64 k] w (.string (mtx k)):=by
 obtain⟨q,rfl⟩:∃n:Nat,k=n:=⟨k.toNat,by omega⟩;delta Qz;go_in
 go_wp2
 go_loopw [0,3] (fun B T wr=>∃(n:Nat) (o:List UInt8),n+o.length≤q∧dig n++o=dig q∧Gr w wr∧B=.int .i64 n∧T=.string ⟨o.toArray⟩) (fun B _ _=>(intOf B).toNat)
 case atStart=>exact⟨q,[],by simp,by simp,Gr.refl w,rfl,rfl⟩
 case round=>
  obtain⟨n,o,hn,h,⟨x,rfl⟩,rfl,rfl⟩:=hrel;have D:=Kz h;clear h
  by_cases I:0<n
  ·have b1:(n:Int)≤4398046511104:=by omega
   have X:¬9223372036854775807<1+o.length:=by omega
   clear h1
   have J:=run_convert_bytes_back (P:=Tryz.prog) ((w.ext x).alloc (.cells #[.int .u8 (48+(n:Int) % 10)] 5)) 140 9 5 ⟨w.heap.size+x.objs.size,0,none⟩ 1 [UInt8.ofNat (48+n % 10)]
    Tryz.underlying140 Tryz.underlying5 Tryz.underlying9 (fun j U=>by
     obtain rfl:j=0:=by simpa using U
     rw[show(⟨w.heap.size+x.objs.size,0,none⟩:Addr).add 0=⟨w.heap.size+x.objs.size,0,none⟩ by simp[Addr.add]];rw[aJ (by simp) (v:=.int .u8 (48+(n:Int) % 10)) rfl];simp;omega)
   simp only[length_cons,List.length_nil,Nat.zero_add] at J;obtain⟨c,hc⟩:∃c,UInt8.ofNat (48+n % 10)=c:=⟨_,rfl⟩;rw[hc] at J;have V:=Kz hc;clear hc;have Y:(⟨#[c]⟩:ByteArray).size=1:=rfl;have K:(⟨o.toArray⟩:ByteArray).size=o.length:=by show o.toArray.size=_;simp
   go_wp2
   refine⟨⟨n / 10,c::o,by simp;omega,?_,gd,by go_num,?_⟩,by simp[intOf];omega⟩
   ·rw[←D.o,EY I,V.o];simp
   ·exact congrArg Value.string (ByteArray.ext (by simp))
  ·have K:(⟨o.toArray⟩:ByteArray).size=o.length:=by show o.toArray.size=_;simp
   have O:n=0:=by omega
   subst O
   go_wp2
   go_ret;refine⟨congrArg (fun s=>Ending.returned (.string s)) ?_,gd⟩;have h:=D.o;rw[Cx,nil_append] at h;unfold mtx;rw[if_neg (by omega),Int.toNat_natCast,h];exact ByteArray.ext (by simp)
theorem jN{α:Type}(f:Int→α→α×Int)(wt:α→Nat)(h:∀k x,k≤(f k x).2∧(f k x).2≤k+16*(1+wt x))(xs:List α):∀k,k≤(gK f k xs).2∧(gK f k xs).2≤k+16*wtL wt xs:=by
 induction xs with
 |nil=>intro k;simp[gK,wtL]
 |cons x xs q=>
  intro k
  have h1:=h k x;have B:=q (f k x).2;simp only[gK,wtL,List.map_cons,List.sum_cons,length_cons] at*;omega
theorem dG{α:Type}(f:Int→α→α×Int)(B:∀k x,k≤(f k x).2)(k:Int)(xs:List α)(i:Nat):k≤(gK f k (xs.take i)).2∧(gK f k (xs.take i)).2≤(gK f k xs).2:=by
 have mono:∀(q:List α) (j:Int),j≤(gK f j q).2:=by
  intro q
  induction q with
  |nil=>intro j;simp[gK]
  |cons y q D=>intro j;have:=B j y;have:=D (f j y).2;simp only[gK];omega
 refine⟨mono _ _,?_⟩;have h:gK f k xs=gK f k (xs.take i++xs.drop i):=by rw[List.take_append_drop]
 rw[h,lD];exact mono _ _
theorem eH{y:Int}(h:0<y)(h1:y≤4398046511104):(Lit.int .i64 y).wf=true:=by
 simp only[Lit.wf,Bool.and_eq_true,decide_eq_true_eq];have q:IntKind.i64.min= -9223372036854775808:=by decide
 have B:IntKind.i64.max=9223372036854775807:=by decide
 omega
def nS(k:Int)(_:Int):Int×Int:=(k,k+1)
theorem zA(k x:Int):k≤(nS k x).2:=by unfold nS;simp;omega
theorem Hq(xs:List Int):∀k,(gK nS k xs).2=k+xs.length:=by
 induction xs with
 |nil=>intro k;simp[gK]
 |cons x xs h=>intro k;simp only[gK,h,nS,length_cons];omega
theorem A8(fp:List Nat)(u:Value)(xs:List Int)(k:Int)(w:World)(hu:SlR fp w u xs)(V:fp.Nodup)(h0:0<k)(h1:(gK nS k xs).2≤4398046511104):
  Calls Tryz.prog 59 #[u,.int .i64 k] w fun e w'=>e=.returned (.int .i64 (gK nS k xs).2)∧SlR fp w' u (gK nS k xs).1∧Wr fp w w':=by
 obtain⟨a,ca,rfl,g1,g2,g3⟩:=hu.open;have H1:=Kz h1;clear h1;go_in
 go_wp2
 go_loopw [5,1] (fun J s1 wr=>∃(i:Nat) (m:Int),i≤xs.length∧Ky (m=(gK nS k (xs.take i)).2)∧SlR fp wr (.slice a xs.length ca) (markT nS k xs i)∧Wr fp w wr∧J=.int .i64 i∧s1=.int .i64 m) (fun J _ _=>xs.length - (intOf J).toNat)
 case atStart=>exact⟨0,k,by omega,Kz (by simp[gK]),by rw[iE];exact hu,Wr.refl _ _,rfl,rfl⟩
 case round=>
  obtain⟨i,m,hi,hm,hs,X,rfl,rfl⟩:=hrel;have K:=Kz hs;have Y:=Kz X;clear hs X
  by_cases h:i<xs.length
  ·obtain⟨b,off,rfl,hb⟩:=g3 i h
   have O:i<(markT nS k xs i).length:=by rw[iJ];exact h
   obtain⟨cs,fq,hc,hr,-,Z,-,-,hz,q⟩:=K.o.focus V O
   have HP:=Kz q;obtain⟨rfl,rfl,-⟩:=hr;have z0:wr.cell? ⟨b,off+i,none⟩=some (.int .i64 (markT nS k xs i)[i]):=by simpa[Rd.n] using hc 0 _ rfl
   have f0:wr.frozen? ⟨b,off+i,none⟩=false:=by simpa[Rd.n] using hz 0 (by simp[Rd.n])
   have T:=dG nS zA k xs (i+1);have I:=dG nS zA k xs i;rw[dF nS k xs h,←hm.o] at T;rw[←hm.o] at I;have m0:0<m:=by omega
   have em:(nS m xs[i]).2=m+1:=rfl;rw[em] at T;have m1:m+1≤4398046511104:=by have:=H1.o;omega
   clear hc hz q T I g3 em
   go_wp2
   refine⟨⟨i+1,m+1,by omega,Kz ?_,?_,Y.o.setCell Z _,by go_num,rfl⟩,by simp[intOf];omega⟩
   ·rw[dF nS k xs h,←hm.o];rfl
   ·rw[iA nS k xs h,←hm.o]
    have hF:Foc b (off+i*Rd.n Int) (Rd.n Int) [] wr (wr.setCell ⟨b,off+i,none⟩ (.int .i64 m)):=(Foc.refl _ _ _ _ _).set (by simp[Rd.n]) (by simp[Rd.n]) _;refine HP.o _ [.int .i64 m] m hF (fun j v U=>?_) ⟨rfl,rfl,eH m0 (by omega)⟩
    cases j with
    |zero=>simp at U;subst U;simpa[Rd.n] using iY z0
    |succ j=>simp at U
  ·have ae:i=xs.length:=by omega
   subst ae;have B:=K.o;rw[jb] at B;have D:=hm.o;rw[take_length] at D;have ah:=Kz B;have ai:=Kz D;clear B D K hm
   go_wp2
   go_ret;exact⟨aC ai.o,ah.o,Y.o⟩
def oq(k:Int)(x:List Int):List Int×Int:=gK nS k x
theorem Di(k:Int)(x:List Int):k≤(oq k x).2∧(oq k x).2≤k+16*x.length:=by unfold oq;rw[Hq];omega
theorem DZ(k:Int)(x:List Int):k≤(oq k x).2:=(Di k x).1
def nP(k:Int)(_:ByteArray):ByteArray×Int:=(mtx k,k+1)
abbrev mbo(k:Int):Bool:=k % 3==0
theorem I6(k:Int)(x:ByteArray):k≤(nP k x).2∧(nP k x).2≤k+16*(1+x.size):=by unfold nP;simp;omega
theorem Ad(k:Int)(x:ByteArray):k≤(nP k x).2:=by unfold nP;simp;omega
def dC(k:Int)(x:List ByteArray):List ByteArray×Int:=gK nP k x
theorem uR(k:Int)(x:List ByteArray):k≤(dC k x).2∧(dC k x).2≤k+16*cu x:=by
 have:=jN nP (fun s=>s.size) I6 x k;unfold dC cu;exact this
theorem yO(k:Int)(x:List ByteArray):k≤(dC k x).2:=(uR k x).1
theorem vN(fp:List Nat)(u:Value)(xs:List ByteArray)(k:Int)(w:World)(hu:SlR fp w u xs)(V:fp.Nodup)(h0:0<k)(h1:(dC k xs).2≤4398046511104):
  Calls Tryz.prog 82 #[u,.int .i64 k] w fun e w'=>e=.returned (.int .i64 (dC k xs).2)∧SlR fp w' u (dC k xs).1∧Wr fp w w':=by
 obtain⟨a,ca,rfl,g1,g2,g3⟩:=hu.open;have H1:=Kz (show(gK nP k xs).2≤4398046511104 from h1);clear h1;go_in
 go_wp2
 go_loopw [5,1] (fun J s1 wr=>∃(i:Nat) (m:Int),i≤xs.length∧Ky (m=(gK nP k (xs.take i)).2)∧SlR fp wr (.slice a xs.length ca) (markT nP k xs i)∧Wr fp w wr∧J=.int .i64 i∧s1=.int .i64 m) (fun J _ _=>xs.length - (intOf J).toNat)
 case atStart=>exact⟨0,k,by omega,Kz (by simp[gK]),by rw[iE];exact hu,Wr.refl _ _,rfl,rfl⟩
 case round=>
  obtain⟨i,m,hi,hm,hs,X,rfl,rfl⟩:=hrel;have K:=Kz hs;have Y:=Kz X;clear hs X
  by_cases h:i<xs.length
  ·obtain⟨b,off,rfl,hb⟩:=g3 i h
   have O:i<(markT nP k xs i).length:=by rw[iJ];exact h
   obtain⟨cs,fq,hc,hr,-,Z,-,-,hz,q⟩:=K.o.focus V O
   have HP:=Kz q;obtain⟨rfl,rfl,-⟩:=hr;have z0:wr.cell? ⟨b,off+i,none⟩=some (.string (markT nP k xs i)[i]):=by simpa[Rd.n] using hc 0 _ rfl
   have f0:wr.frozen? ⟨b,off+i,none⟩=false:=by simpa[Rd.n] using hz 0 (by simp[Rd.n])
   have bl:=blk z0;have T:=dG nP Ad k xs (i+1);have I:=dG nP Ad k xs i;rw[dF nP k xs h,←hm.o] at T;rw[←hm.o] at I;have m0:0<m:=by omega
   have em:(nP m xs[i]).2=m+1:=rfl;rw[em] at T;have m1:m+1≤4398046511104:=by have:=H1.o;omega
   clear hc hz q T I g3 em;go_wp2_with fail;refine(dz m _ (by omega) (by omega)).mono ?_;rintro e w2 ⟨rfl,x2,rfl⟩;go_wp2_with fail;refine⟨⟨i+1,m+1,by omega,Kz ?_,?_,?_,by go_num,rfl⟩,by simp[intOf];omega⟩
   ·rw[dF nP k xs h,←hm.o];rfl
   ·rw[iA nP k xs h,←hm.o]
    have hF:Foc b (off+i*Rd.n ByteArray) (Rd.n ByteArray) [] wr ((wr.setCell ⟨b,off+i,none⟩ (.string (mtx m))).ext x2):=Foc.gr ((Foc.refl _ _ _ _ _).set (by simp[Rd.n]) (by simp[Rd.n]) _) bl (Gr.ext (Gr.refl _) _);refine HP.o _ [.string (mtx m)] (mtx m) hF (fun j v U=>?_) ⟨rfl,rfl,fK m (by omega)⟩
    cases j with
    |zero=>
     simp at U;subst U;rw[Fw _ _ (by simpa using bl)];simpa[Rd.n] using iY z0
    |succ j=>simp at U
   ·exact(Y.o.setCell Z _).gr (Gr.ext (Gr.refl _) _)
  ·have ae:i=xs.length:=by omega
   subst ae;have B:=K.o;rw[jb] at B;have D:=hm.o;rw[take_length] at D;have ah:=Kz B;have ai:=Kz D;clear B D K hm
   go_wp2
   go_ret;exact⟨aC ai.o,ah.o,Y.o⟩
def mE:(d:Nat)→Int→GE d→GE d×Int
 |0,_,x=>PEmpty.elim x
 |d+1,k,x=>(fun y:aA d=>(((k,k+1,k+1+1,k+1+1+1,mtx (k+1+1+1+1),mtx (k+1+1+1+1+1),(gK (mE d) (k+1+1+1+1+1+1) y.2.2.2.2.2.2).1):aA d),(gK (mE d) (k+1+1+1+1+1+1) y.2.2.2.2.2.2).2)) x
theorem Gg:(d:Nat)→∀(k:Int) (x:GE d),k≤(mE d k x).2∧(mE d k x).2≤k+16*(1+wtE d x)
 |0=>fun k x=>PEmpty.elim x
 |d+1=>fun k x=>by
  have b:=jN (mE d) (wtE d) (Gg d) (show aA d from x).2.2.2.2.2.2 (k+1+1+1+1+1+1);have e:(mE (d+1) k x).2=(gK (mE d) (k+1+1+1+1+1+1) (show aA d from x).2.2.2.2.2.2).2:=rfl;have hw:wtE (d+1) x=(show aA d from x).2.2.2.2.1.size+(show aA d from x).2.2.2.2.2.1.size+wtL (wtE d) (show aA d from x).2.2.2.2.2.2:=rfl;rw[e,hw];omega
theorem EL(d:Nat)(k:Int)(x:GE d):k≤(mE d k x).2:=(Gg d k x).1
def bD{d:Nat}(k:Int)(x:List (GE d)):List (GE d)×Int:=gK (mE d) k x
theorem oW{d:Nat}(k:Int)(x:List (GE d)):k≤(bD k x).2∧(bD k x).2≤k+16*fC x:=by
 have:=jN (mE d) (wtE d) (Gg d) x k;unfold bD fC;exact this
theorem mq{d:Nat}(k:Int)(x:List (GE d)):k≤(bD k x).2:=(oW k x).1
theorem rR{d:Nat}(hE:∀d1,d=d1+1→∀(fp:List Nat) (u:Value) (xs:List (GE d1)) (k:Int) (w:World) (hu:SlR fp w u xs) (aj:fp.Nodup) (h0:0<k) (h1:(bD k xs).2≤4398046511104),Calls Tryz.prog 115 #[u,.int .i64 k] w fun e w'=>e=.returned (.int .i64 (bD k xs).2)∧SlR fp w' u (bD k xs).1∧Wr fp w w')(fp:List Nat)(u:Value)(xs:List (GE d))(k:Int)(w:World)(hu:SlR fp w u xs)(aj:fp.Nodup)(h0:0<k)(h1:(bD k xs).2≤4398046511104):
  Calls Tryz.prog 115 #[u,.int .i64 k] w fun e w'=>e=.returned (.int .i64 (bD k xs).2)∧SlR fp w' u (bD k xs).1∧Wr fp w w':=by
 obtain⟨a,ca,rfl,g1,g2,g3⟩:=hu.open;have H1:=Kz h1;clear h1;go_in
 go_wp2
 go_loopw [5,1] (fun s5 s1 wr=>∃(i:Nat) (m:Int),i≤xs.length∧Ky (m=(gK (mE (d)) k (xs.take i)).2)∧SlR fp wr (.slice a xs.length ca) (markT (mE (d)) k xs i)∧Wr fp w wr∧s5=.int .i64 i∧s1=.int .i64 m) (fun s5 _ _=>xs.length - (intOf s5).toNat)
 case atStart=>exact⟨0,k,by omega,Kz (by simp[gK]),by rw[iE];exact hu,Wr.refl _ _,rfl,rfl⟩
 case round=>
  obtain⟨i,m,hi,hm,hs,hW,rfl,rfl⟩:=hrel;have HS:=Kz hs;have HW:=Kz hW;clear hs hW
  by_cases D:i<xs.length
  ·obtain⟨d1,rfl⟩:∃e,d=e+1:=by
    cases d with
    |zero=>exact PEmpty.elim (xs[i])
    |succ e=>exact⟨e,rfl⟩
   obtain⟨b,off,rfl,hb⟩:=g3 i D;have bg:i<(markT (mE (d1+1)) k xs i).length:=by rw[iJ];exact D
   obtain⟨cs,fq,hc,hr,hsub,dS,U,V,hz,K⟩:=HS.o.focus aj bg
   have HP:=Kz K;rw[kQ (mE (d1+1)) k xs D] at hr;obtain⟨y,hy⟩:=nm (xs[i]);rw[←hy] at hr;have HY:=Kz hy;have bd:=dG (mE (d1+1)) (EL (d1+1)) k xs (i+1);have ak:=dG (mE (d1+1)) (EL (d1+1)) k xs i;rw[dF (mE (d1+1)) k xs D,←hm.o,←hy] at bd;rw[←hm.o] at ak;obtain⟨q0,q1,q2,q3,q4,q5,q6⟩:=y;obtain⟨iw,B,au,ax,-,-,-,-,-,-,X⟩:=aF (cs:=cs.toArray) q0 q1 q2 q3 q4 q5 q6 (show Rd.rd (α:=aA d1) fq wr cs.toArray.toList _ from hr);obtain rfl:=toL au;rw[ax] at hsub U V HP K hr;clear ax;have z0:wr.cell? ⟨b,off+i*7,none⟩=some (.int .i64 q0):=by simpa[Rd.n] using hc 0 _ rfl
   replace hc:∀j v,_→wr.cell? ⟨b,off+i*7+j,none⟩=some v:=hc;have z1:=hc 1 _ rfl;have z2:=hc 2 _ rfl;have z3:=hc 3 _ rfl;have z4:=hc 4 _ rfl;have z5:=hc 5 _ rfl;have z6:=hc 6 _ rfl;have f0:wr.frozen? ⟨b,off+i*7,none⟩=false:=by simpa[Rd.n] using hz 0 (by show _<7;decide)
   replace hz:∀j,j<7→wr.frozen? ⟨b,off+i*7+j,none⟩=false:=hz;have f1:=hz 1 (by decide);have f2:=hz 2 (by decide);have f3:=hz 3 (by decide);have f4:=hz 4 (by decide);have f5:=hz 5 (by decide);have T:=blk z0;have m0:0<m:=by omega
   have em:((mE (d1+1)) m (q0,q1,q2,q3,q4,q5,q6)).2=(bD (m+1+1+1+1+1+1) q6).2:=rfl;rw[em] at bd;have kr:=mq (m+1+1+1+1+1+1) q6;have m1:(bD (m+1+1+1+1+1+1) q6).2≤4398046511104:=by have h:=H1.o;have e:(bD k xs).2=(gK (mE (d1+1)) k xs).2:=rfl;omega
   have bq:=fun o o' (h:¬o'=o)=>cne b o o' h
   have fz:=fun(W:World) (o o':Nat) (v:Value)=>(eQ:(W.setCell ⟨b,o,none⟩ v).frozen? ⟨b,o',none⟩=W.frozen? ⟨b,o',none⟩)
   have dV:=Kz (eH (y:=m) (by omega) (by omega));have fe:=Kz (eH (y:=m+1) (by omega) (by omega));have fu:=Kz (eH (y:=m+1+1) (by omega) (by omega));have gB:=Kz (eH (y:=m+1+1+1) (by omega) (by omega));have gD:=Kz (fK (m+1+1+1+1) (by omega));have gF:=Kz (fK (m+1+1+1+1+1) (by omega));have N0:(B).Nodup:=by simpa only[nil_append,List.append_nil] using V
   have M0:b∉B:=by simpa only[nil_append,List.append_nil] using U
   have ay:=N0;have aZ:b∉B:=fun h=>M0 (by simp[h])
   have gT:=Kz X;obtain⟨Y,Z,rfl,-,-,-⟩:=X.open;have I:=Kz aZ;have bB:=Kz ay;clear aZ ay M0 N0 X;clear hc hz K ak g3 em hy hr au;have bH:=Kz hsub;clear U V hsub;go_wp2_with fail;refine(dz (m+1+1+1+1) _ (by omega) (by omega)).mono ?_;rintro e w4 ⟨rfl,x4,rfl⟩;go_wp2_with fail;refine(dz (m+1+1+1+1+1) _ (by omega) (by omega)).mono ?_;rintro e w5 ⟨rfl,x5,rfl⟩;go_wp2_with fail;refine(hE d1 rfl B _ q6 (m+1+1+1+1+1+1) _ ((SlR.wr gT.o (fp:=[b]) (by repeat(first|with_reducible refine Wr.setCell ?_ (by simp) _|with_reducible refine Wr.gr ?_ (Gr.ext (Gr.refl _) _)|exact Wr.refl _ _)) (by have:=I.o;intro c hc J;simp at J;subst J;exact this hc))) bB.o (by omega) (by show(bD (m+1+1+1+1+1+1) q6).2≤_;omega)).mono ?_;rintro e O ⟨rfl,t6,r6⟩;have T6:=Kz t6;have R6:=Kz r6;clear t6 r6;have F6:=Kz (Foc.inner (b:=b) (lo:=off+i*Rd.n (GE (d1+1))) (n:=Rd.n (GE (d1+1))) (fq:=([]++([]++([]++([]++([]++([]++B))))))) (w:=wr) (by repeat(first|with_reducible refine Foc.set ?_ (by simp[Rd.n]<;>omega) (by simp[Rd.n]<;>omega) _|with_reducible refine Foc.gr ?_ T (Gr.ext (Gr.refl _) _)|exact Foc.refl _ _ _ _ _)) T R6.o (by intro c hc;simp[hc]) I.o);have ai:=T6;have e6:=R6.o.block b (Nat.lt_of_lt_of_le T (Foc.wr (b:=b) (lo:=off+i*Rd.n (GE (d1+1))) (n:=Rd.n (GE (d1+1))) (fq:=([]++([]++([]++([]++([]++([]++B))))))) (w:=wr) (by repeat(first|with_reducible refine Foc.set ?_ (by simp[Rd.n]<;>omega) (by simp[Rd.n]<;>omega) _|with_reducible refine Foc.gr ?_ T (Gr.ext (Gr.refl _) _)|exact Foc.refl _ _ _ _ _))).size) I.o;have c6:=fun(o:Nat)=>World.cell?_of_block (a:=⟨b,o,none⟩) e6
   have bL:O.cell? ⟨b,off+i*7,none⟩=some (.int .i64 (m)):=(c6 _).trans (by go_simp);have bR:O.cell? ⟨b,off+i*7+1,none⟩=some (.int .i64 (m+1)):=(c6 _).trans (by go_simp);have bX:O.cell? ⟨b,off+i*7+2,none⟩=some (.int .i64 (m+1+1)):=(c6 _).trans (by go_simp);have cB:O.cell? ⟨b,off+i*7+3,none⟩=some (.int .i64 (m+1+1+1)):=(c6 _).trans (by go_simp);have cK:O.cell? ⟨b,off+i*7+4,none⟩=some (.string (mtx (m+1+1+1+1))):=(c6 _).trans (by go_simp);have cO:O.cell? ⟨b,off+i*7+5,none⟩=some (.string (mtx (m+1+1+1+1+1))):=(c6 _).trans (by go_simp);have dB:O.cell? ⟨b,off+i*7+6,none⟩=some (.slice Y q6.length Z):=(c6 _).trans (by go_simp);have s6:=R6.o.size;clear e6 c6 z0 z1 z2 z3 z4 z5 z6;clear fz bq f0 f1 f2 f3 f4 f5;go_wp2_with fail;refine⟨⟨i+1,(bD (m+1+1+1+1+1+1) q6).2,by omega,Kz ?_,?_,?_,by go_num,rfl⟩,by simp[intOf];omega⟩
   ·rw[dF (mE (d1+1)) k xs D,←hm.o,←HY.o];rfl
   ·rw[iA (mE (d1+1)) k xs D,←hm.o,←HY.o]
    refine HP.o _ [.int .i64 (m),.int .i64 (m+1),.int .i64 (m+1+1),.int .i64 (m+1+1+1),.string (mtx (m+1+1+1+1)),.string (mtx (m+1+1+1+1+1)),.slice Y q6.length Z] ((mE (d1+1)) m (q0,q1,q2,q3,q4,q5,q6)).1 (by repeat(first|with_reducible refine Foc.set ?_ (by simp[Rd.n]<;>omega) (by simp[Rd.n]<;>omega) _|with_reducible refine Foc.gr ?_ T (Gr.ext (Gr.refl _) _)|exact F6.o)) (fun j v q=>?_) (bJ (m) (m+1) (m+1+1) (m+1+1+1) (mtx (m+1+1+1+1)) (mtx (m+1+1+1+1+1)) ((bD (m+1+1+1+1+1+1) q6).1) dV.o fe.o fu.o gB.o gD.o gF.o (SlR.wr ai.o (fp:=[b]) (by repeat(first|with_reducible refine Wr.setCell ?_ (by simp) _|with_reducible refine Wr.gr ?_ (Gr.ext (Gr.refl _) _)|exact Wr.refl _ _)) (by have:=I.o;intro c hc J;simp at J;subst J;exact this hc)))
    have en:off+i*Rd.n (GE (d1+1))=off+i*7:=rfl;rw[en]
    match j,q with
    |0,q=>obtain rfl:=Option.some.inj q;exact bL
    |1,q=>obtain rfl:=Option.some.inj q;exact bR
    |2,q=>obtain rfl:=Option.some.inj q;exact bX
    |3,q=>obtain rfl:=Option.some.inj q;exact cB
    |4,q=>obtain rfl:=Option.some.inj q;exact cK
    |5,q=>obtain rfl:=Option.some.inj q;exact cO
    |6,q=>obtain rfl:=Option.some.inj q;exact dB
   ·exact HW.o.trans (Wr.sub (Foc.wr (b:=b) (lo:=off+i*Rd.n (GE (d1+1))) (n:=Rd.n (GE (d1+1))) (fq:=([]++([]++([]++([]++([]++([]++B))))))) (by repeat(first|with_reducible refine Foc.set ?_ (by simp[Rd.n]<;>omega) (by simp[Rd.n]<;>omega) _|with_reducible refine Foc.gr ?_ T (Gr.ext (Gr.refl _) _)|exact F6.o))) (fun c hc=>by
     rcases List.mem_cons.1 hc with rfl|hc
     ·exact dS
     ·exact bH.o c hc))
  ·have gV:i=xs.length:=by omega
   subst gV;have ae:=HS.o;rw[jb] at ae;have ah:=hm.o;rw[take_length] at ah;have gX:=Kz ae;have ik:=Kz ah;clear ae ah HS hm
   go_wp2
   go_ret;exact⟨aC ik.o,gX.o,HW.o⟩
theorem p9:(d:Nat)→∀(fp:List Nat) (u:Value) (xs:List (GE d)) (k:Int) (w:World) (hu:SlR fp w u xs) (q:fp.Nodup) (B:0<k) (h1:(bD k xs).2≤4398046511104),Calls Tryz.prog 115 #[u,.int .i64 k] w fun e w'=>e=.returned (.int .i64 (bD k xs).2)∧SlR fp w' u (bD k xs).1∧Wr fp w w'
 |0=>rR (fun d1 h=>by omega)
 |d+1=>rR (fun d1 h=>by cases h;exact p9 d)
theorem mH{d:Nat}(fp:List Nat)(u:Value)(xs:List (GE d))(k:Int)(w:World)(hu:SlR fp w u xs)(h:fp.Nodup)(q:0<k)(h1:(bD k xs).2≤4398046511104):
  Calls Tryz.prog 115 #[u,.int .i64 k] w fun e w'=>e=.returned (.int .i64 (bD k xs).2)∧SlR fp w' u (bD k xs).1∧Wr fp w w':=p9 d fp u xs k w hu h q h1
end Go.Proofs.YtleafadpfeibfaaGreat
