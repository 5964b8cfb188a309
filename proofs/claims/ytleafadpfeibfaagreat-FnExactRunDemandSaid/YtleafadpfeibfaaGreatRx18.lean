/- Contracts and laws towards ReadsOf, part 14 of 54. No condition. -/
import Derived.Test.YtleafadpfeibfaaGreatRx15
import Derived.Laws.CopyOwn
import Derived.Laws.Bits64b
set_option maxHeartbeats 32000000
set_option maxRecDepth 10000
set_option linter.unusedVariables false
set_option linter.unusedSimpArgs false
namespace Go.Proofs.YtleafadpfeibfaaGreat
open Go.RowKit
open _root_.List (length_map mem_append mem_append_left mem_append_right)
open _root_.Option (getD_some)
variable{d:Nat}
variable{w w0 w':World}{v:Value}{ns:List aT}{F fx ft fp:List Nat}{cx ct:Array Value}{base:Nat}
theorem dY(x:(af d))(n:ByteArray)(w:World)(hx:Rd.rd fx w cx.toList x):
  Calls Tryz.prog 86 #[.agg cx,.string n] w (Found fx w (bW x.1 n) dE):=by
 obtain⟨q,x1,ah,ai,dV,aj,ak,fe,rfl,rfl,au,X,bL,bR,fu,bX,cB⟩:=yt hx;have Z:=X.op3;clear hx;go_in;go_wp2_with fail
 go_loopw [11,7] (fun K s7 wr=>∃k:Nat,k≤q.length∧Ky (∀j (h:j<q.length),j<k→decide (q[j].1=n)=false)∧Gr ((w.alloc (.cells #[.slice ah q.length ai,.slice aj x1.length ak] 39)).alloc (.cells #[.string ByteArray.empty,.slice none 0 0] 123)) wr∧K=.int .i64 k) (fun K _ _=>q.length - (intOf K).toNat)
 case atStart=>exact⟨0,by omega,Kz (by omega),Gr.refl _,rfl⟩
 case round=>
  obtain⟨k,hk,ht,⟨y,rfl⟩,rfl⟩:=hrel
  by_cases I:k<q.length
  ·have cK:=I
   obtain⟨b,off,rfl,gB⟩:=Z k I;obtain⟨ax,ay,D,J,Y⟩:=X.at I;obtain⟨yq,O⟩:=nm (q[k]);rw[←O] at J;have T:=Kz O;have aZ:=Kz J;obtain⟨q0,q1⟩:=yq;obtain⟨gD,gF,U,-,gT,bg⟩:=aV (cs:=ax.toArray) q0 q1 (by simpa using J);obtain rfl:=toL U;obtain⟨bq,bB,rfl,cO,dB,dS⟩:=bg.open;have gV:w.cell? ⟨b,off+k*2,none⟩=some (.string q0):=by simpa[Rd.n] using D 0 _ rfl
   replace D:∀j v,_→w.cell? ⟨b,off+k*2+j,none⟩=some v:=D;have gX:=D 1 _ rfl;clear U D J O;have bH:=Kz Y;clear Y
   by_cases B:q0=n
   ·skip
    obtain rfl:=B;have hl:bW q q0=some q[k]:=mf I (by rw[←T.o];simp) ht.o;have V:=Kz hl;clear hl;go_wp2_with fail
    exact bodyPost_ret (v:=.tuple #[.agg #[.string q0,.slice bq q1.length bB],.bool true])
     (by simp[results,Tryz.results86,go_sem]) rfl ⟨_,ay,by rw[V.o];rfl,by rw[V.o,getD_some,←T.o];exact Rd.gr aZ.o gd,fun c hc=>.inl (by rw[au.o];simp only[mem_append];have:=bH.o c hc;simp[this]),gd⟩
   ·have E:=Kz B
    have e:(q0.toList==n.toList)=false:=by simpa using fun e=>B (str_inj e)
    clear B;go_wp2_with fail;refine⟨⟨k+1,by omega,Kz fun j hj ik=>?_,gd,by go_num⟩,by simp[intOf];omega⟩
    by_cases ae:j<k
    ·exact ht.o j hj ae
    ·obtain rfl:j=k:=by omega
     rw[←T.o];exact decide_eq_false E.o
  ·have hn:bW q n=none:=jU fun j hj=>ht.o j hj (by omega)
   have V:=Kz hn;clear hn;go_wp2_with fail
   exact bodyPost_ret (v:=.tuple #[.agg #[.string ⟨#[]⟩,.slice none 0 0],.bool false])
    (by simp[results,Tryz.results86,go_sem]) rfl ⟨_,_,by rw[V.o];rfl,by rw[V.o];exact CR _,by simp,gd⟩
theorem iL(x:(af d))(n:ByteArray)(w:World)(hx:Rd.rd fx w cx.toList x):
  Calls Tryz.prog 118 #[.agg cx,.string n] w (Found fx w (dJ x.2 n) fH):=by
 obtain⟨x0,B,ah,ai,ku,aj,ak,ky,rfl,rfl,au,lq,dB,dS,X,dV,fe⟩:=yt hx;have Z:=X.op3;clear hx;go_in;go_wp2_with fail
 go_loopw [11,7] (fun K s7 wr=>∃k:Nat,k≤B.length∧Ky (∀j (h:j<B.length),j<k→decide (B[j].1=n)=false)∧Gr ((w.alloc (.cells #[.slice ah x0.length ai,.slice aj B.length ak] 39)).alloc (.cells #[.string ByteArray.empty,.string ByteArray.empty,.slice none 0 0,.bool false,.slice none 0 0,.slice none 0 0] 128)) wr∧K=.int .i64 k) (fun K _ _=>B.length - (intOf K).toNat)
 case atStart=>exact⟨0,by omega,Kz (by omega),Gr.refl _,rfl⟩
 case round=>
  obtain⟨k,hk,ht,⟨y,rfl⟩,rfl⟩:=hrel
  by_cases I:k<B.length
  ·have fu:=I
   obtain⟨b,off,rfl,oH⟩:=Z k I;obtain⟨ax,ay,q,J,Y⟩:=X.at I;obtain⟨yq,O⟩:=nm (B[k]);rw[←O] at J;have T:=Kz O;have aZ:=Kz J;obtain⟨q0,q1,q2,q3,q4,q5⟩:=yq;obtain⟨oL,o5,o9,qb,q8,q9,U,-,sO,uf,bg,bq,bB⟩:=aM (cs:=ax.toArray) q0 q1 q2 q3 q4 q5 (by simpa using J);obtain rfl:=toL U;obtain⟨bH,bL,rfl,gB,gD,gF⟩:=bg.open;obtain⟨bR,bX,rfl,gT,gV,gX⟩:=bq.open;obtain⟨cB,cK,rfl,ik,iw,kr⟩:=bB.open;have uo:w.cell? ⟨b,off+k*6,none⟩=some (.string q0):=by simpa[Rd.n] using q 0 _ rfl
   replace q:∀j v,_→w.cell? ⟨b,off+k*6+j,none⟩=some v:=q;have uq:=q 1 _ rfl;have uz:=q 2 _ rfl;have u6:=q 3 _ rfl;have ve:=q 4 _ rfl;have vB:=q 5 _ rfl;clear U q J O;have cO:=Kz Y;clear Y
   by_cases D:q0=n
   ·skip
    obtain rfl:=D;have hl:dJ B q0=some B[k]:=mf I (by rw[←T.o];simp) ht.o;have V:=Kz hl;clear hl;go_wp2_with fail
    exact bodyPost_ret (v:=.tuple #[.agg #[.string q0,.string q1,.slice bH q2.length bL,.bool q3,.slice bR q4.length bX,.slice cB q5.length cK],.bool true])
     (by simp[results,Tryz.results118,go_sem]) rfl ⟨_,ay,by rw[V.o];rfl,by rw[V.o,getD_some,←T.o];exact Rd.gr aZ.o gd,fun c hc=>.inl (by rw[au.o];simp only[mem_append];have:=cO.o c hc;simp[this]),gd⟩
   ·have E:=Kz D
    have e:(q0.toList==n.toList)=false:=by simpa using fun e=>D (str_inj e)
    clear D;go_wp2_with fail;refine⟨⟨k+1,by omega,Kz fun j hj vD=>?_,gd,by go_num⟩,by simp[intOf];omega⟩
    by_cases ae:j<k
    ·exact ht.o j hj ae
    ·obtain rfl:j=k:=by omega
     rw[←T.o];exact decide_eq_false E.o
  ·have hn:dJ B n=none:=jU fun j hj=>ht.o j hj (by omega)
   have V:=Kz hn;clear hn;go_wp2_with fail
   exact bodyPost_ret (v:=.tuple #[.agg #[.string ⟨#[]⟩,.string ⟨#[]⟩,.slice none 0 0,.bool false,.slice none 0 0,.slice none 0 0],.bool false])
    (by simp[results,Tryz.results118,go_sem]) rfl ⟨_,_,by rw[V.o];rfl,by rw[V.o];exact CE _,by simp,gd⟩
theorem jA(x:bC)(n:ByteArray)(w:World)(hx:Rd.rd fx w cx.toList x):
  Calls Tryz.prog 142 #[.agg cx,.string n] w (Found fx w (ek x.2 n) dR):=by
 obtain⟨x0,B,ah,ai,bB,rfl,rfl,aj,bH,X,aZ,bg⟩:=Lg hx;have Z:=X.op3;clear hx;go_in;go_wp2_with fail
 go_loopw [11,7] (fun K s7 wr=>∃k:Nat,k≤B.length∧Ky (∀j (h:j<B.length),j<k→decide (B[j].1=n)=false)∧Gr ((w.alloc (.cells #[.string x0,.slice ah B.length ai] 123)).alloc (.cells #[.string ByteArray.empty,.int .i64 0,.int .i64 0,.bool false] 144)) wr∧K=.int .i64 k) (fun K _ _=>B.length - (intOf K).toNat)
 case atStart=>exact⟨0,by omega,Kz (by omega),Gr.refl _,rfl⟩
 case round=>
  obtain⟨k,hk,ht,⟨y,rfl⟩,rfl⟩:=hrel
  by_cases I:k<B.length
  ·have bq:=I
   obtain⟨b,off,rfl,bL⟩:=Z k I;obtain⟨ak,au,q,J,Y⟩:=X.at I;obtain⟨yq,O⟩:=nm (B[k]);rw[←O] at J;have T:=Kz O;have ax:=Kz J;obtain⟨q0,q1,q2,q3⟩:=yq;obtain⟨U,-,bR,bX,cB⟩:=aR (cs:=ak.toArray) q0 q1 q2 q3 (by simpa using J);obtain rfl:=toL U;have cK:w.cell? ⟨b,off+k*4,none⟩=some (.string q0):=by simpa[Rd.n] using q 0 _ rfl
   replace q:∀j v,_→w.cell? ⟨b,off+k*4+j,none⟩=some v:=q;have cO:=q 1 _ rfl;have dB:=q 2 _ rfl;have dS:=q 3 _ rfl;clear U q J O;have ay:=Kz Y;clear Y
   by_cases D:q0=n
   ·skip
    obtain rfl:=D;have hl:ek B q0=some B[k]:=mf I (by rw[←T.o];simp) ht.o;have V:=Kz hl;clear hl;go_wp2_with fail
    exact bodyPost_ret (v:=.tuple #[.agg #[.string q0,.int .i64 q1,.int .i64 q2,.bool q3],.bool true])
     (by simp[results,Tryz.results142,go_sem]) rfl ⟨_,au,by rw[V.o];rfl,by rw[V.o,getD_some,←T.o];exact Rd.gr ax.o gd,fun c hc=>.inl (by rw[aj.o];simp only[mem_append];have:=ay.o c hc;simp[this]),gd⟩
   ·have E:=Kz D
    have e:(q0.toList==n.toList)=false:=by simpa using fun e=>D (str_inj e)
    clear D;go_wp2_with fail;refine⟨⟨k+1,by omega,Kz fun j hj dV=>?_,gd,by go_num⟩,by simp[intOf];omega⟩
    by_cases ae:j<k
    ·exact ht.o j hj ae
    ·obtain rfl:j=k:=by omega
     rw[←T.o];exact decide_eq_false E.o
  ·have hn:ek B n=none:=jU fun j hj=>ht.o j hj (by omega)
   have V:=Kz hn;clear hn;go_wp2_with fail
   exact bodyPost_ret (v:=.tuple #[.agg #[.string ⟨#[]⟩,.int .i64 0,.int .i64 0,.bool false],.bool false])
    (by simp[results,Tryz.results142,go_sem]) rfl ⟨_,_,by rw[V.o];rfl,by rw[V.o];exact oD _,by simp,gd⟩
theorem jC(x:bC)(n:ByteArray)(w:World)(hx:Rd.rd fx w cx.toList x):
  Calls Tryz.prog 159 #[.agg cx,.string n] w (Found fx w (ek x.2 n) dR):=by
 obtain⟨x0,B,ah,ai,bB,rfl,rfl,aj,bH,V,aZ,bg⟩:=Lg hx;have Y:=V.op3;clear hx;go_in;go_wp2_with fail
 go_loopw [6] (fun Z wr=>∃k:Nat,k≤B.length∧Ky (∀j (h:j<B.length),j<k→decide (B[j].1=n)=false)∧Gr ((w.alloc (.cells #[.string x0,.slice ah B.length ai] 123)).alloc (.cells #[.string ByteArray.empty,.int .i64 0,.int .i64 0,.bool false] 144)) wr∧Z=.int .i64 k) (fun Z _=>B.length - (intOf Z).toNat)
 case atStart=>exact⟨0,by omega,Kz (by omega),Gr.refl _,rfl⟩
 case round=>
  obtain⟨k,hk,ht,⟨y,rfl⟩,rfl⟩:=hrel
  by_cases I:k<B.length
  ·have bq:=I
   obtain⟨b,off,rfl,bL⟩:=Y k I;obtain⟨ak,au,q,J,X⟩:=V.at I;obtain⟨yq,K⟩:=nm (B[k]);rw[←K] at J;have O:=Kz K;have ax:=Kz J;obtain⟨q0,q1,q2,q3⟩:=yq;obtain⟨T,-,bR,bX,cB⟩:=aR (cs:=ak.toArray) q0 q1 q2 q3 (by simpa using J);obtain rfl:=toL T;have cK:w.cell? ⟨b,off+k*4,none⟩=some (.string q0):=by simpa[Rd.n] using q 0 _ rfl
   replace q:∀j v,_→w.cell? ⟨b,off+k*4+j,none⟩=some v:=q;have cO:=q 1 _ rfl;have dB:=q 2 _ rfl;have dS:=q 3 _ rfl;clear T q J K;have ay:=Kz X;clear X
   by_cases D:q0=n
   ·skip
    obtain rfl:=D;have hl:ek B q0=some B[k]:=mf I (by rw[←O.o];simp) ht.o;have U:=Kz hl;clear hl;go_wp2_with fail
    exact bodyPost_ret (v:=.tuple #[.agg #[.string q0,.int .i64 q1,.int .i64 q2,.bool q3],.bool true])
     (by simp[results,Tryz.results159,go_sem]) rfl ⟨_,au,by rw[U.o];rfl,by rw[U.o,getD_some,←O.o];exact Rd.gr ax.o gd,fun c hc=>.inl (by rw[aj.o];simp only[mem_append];have:=ay.o c hc;simp[this]),gd⟩
   ·have E:=Kz D
    have e:(q0.toList==n.toList)=false:=by simpa using fun e=>D (str_inj e)
    clear D;go_wp2_with fail;refine⟨⟨k+1,by omega,Kz fun j hj dV=>?_,gd,by go_num⟩,by simp[intOf];omega⟩
    by_cases ae:j<k
    ·exact ht.o j hj ae
    ·obtain rfl:j=k:=by omega
     rw[←O.o];exact decide_eq_false E.o
  ·have hn:ek B n=none:=jU fun j hj=>ht.o j hj (by omega)
   have U:=Kz hn;clear hn;go_wp2_with fail
   exact bodyPost_ret (v:=.tuple #[.agg #[.string ⟨#[]⟩,.int .i64 0,.int .i64 0,.bool false],.bool false])
    (by simp[results,Tryz.results159,go_sem]) rfl ⟨_,_,by rw[U.o];rfl,by rw[U.o];exact oD _,by simp,gd⟩
theorem iI(x:fU)(n:Int)(w:World)(hx:Rd.rd fx w cx.toList x):
  Qz 163 #[.agg cx,.int .i64 n] w (.int .i64 (dQ x n)):=by
 obtain⟨B,ah,ai,bB,rfl,rfl,-,T,au,ax⟩:=K8 hx;have V:=T.op3;clear hx;delta Qz;go_in;go_wp2_with fail
 go_loopw [5] (fun X wr=>∃k:Nat,k≤B.length∧Ky (∀j (h:j<B.length),j<k→decide (B[j].1=n)=false)∧Gr (w.alloc (.cells #[.slice ah B.length ai] 43)) wr∧X=.int .i64 k) (fun X _=>B.length - (intOf X).toNat)
 case atStart=>exact⟨0,by omega,Kz (by omega),Gr.refl _,rfl⟩
 case round=>
  obtain⟨k,hk,ht,⟨y,rfl⟩,rfl⟩:=hrel
  by_cases D:k<B.length
  ·have ay:=D
   obtain⟨b,off,rfl,bH⟩:=V k D;obtain⟨aj,bL,q,I,-⟩:=T.at D;obtain⟨yq,J⟩:=nm (B[k]);rw[←J] at I;have U:=Kz J;obtain⟨q0,q1,q2,q3,q4,q5⟩:=yq;obtain⟨bR,bX,K,-,cB,cK,cO,dB,dS,ak⟩:=bA (cs:=aj.toArray) q0 q1 q2 q3 q4 q5 (by simpa using I);obtain rfl:=toL K;obtain⟨dV,fe,rfl,aZ,bg,bq⟩:=ak.open;have fu:w.cell? ⟨b,off+k*6,none⟩=some (.int .i64 q0):=by simpa[Rd.n] using q 0 _ rfl
   replace q:∀j v,_→w.cell? ⟨b,off+k*6+j,none⟩=some v:=q;have gB:=q 1 _ rfl;have gD:=q 2 _ rfl;have gF:=q 3 _ rfl;have gT:=q 4 _ rfl;have gV:=q 5 _ rfl;clear K q I J
   by_cases O:q0=n
   ·skip
    obtain rfl:=O;have hl:dQ B q0=(k:Int):=iH D (by rw[←U.o];simp) ht.o;have Y:=Kz hl;clear hl;go_wp2_with fail;go_ret;exact⟨aC Y.o.symm,gd⟩
   ·have E:=Kz O
    go_wp2_with fail;refine⟨⟨k+1,by omega,Kz fun j Z gX=>?_,gd,by go_num⟩,by simp[intOf];omega⟩
    by_cases ae:j<k
    ·exact ht.o j Z ae
    ·obtain rfl:j=k:=by omega
     rw[←U.o];exact decide_eq_false E.o
  ·have hn:dQ B n= -1:=gu fun j Z=>ht.o j Z (by omega)
   have Y:=Kz hn;clear hn;go_wp2_with fail;go_ret;exact⟨aC Y.o.symm,gd⟩
theorem E8{a b:ByteArray}(h:a=b):Ending.returned (.string a)=Ending.returned (.string b):=by rw[h]
theorem xU(t:fU)(i:Int)(w:World)(ht:Rd.rd ft w ct.toList t):
  Qz 117 #[.agg ct,.int .i64 i] w (.bool (decide (0≤i)&&decide (i≤(t.length:Int) - 1))):=by
 obtain⟨t0,B,D,I,rfl,rfl,-,J,h,q⟩:=K8 ht;clear ht;delta Qz;go_in;go_wp2_with fail;refine(di _ _ _ _).mono ?_;rintro e w' ⟨rfl,rfl⟩;go_wp2_with fail;go_ret;exact⟨rfl,gd⟩
theorem gQ(t:List aT)(i:Int)(w:World)(ht:Rd.rd ft w ct.toList t)(h:0≤i)(q:i≤(t.length:Int) - 1):
  Qz 117 #[.agg ct,.int .i64 i] w (.bool true):=
 (xU t i w ht).mono fun e w' ⟨he,hw⟩=>⟨by rw[he,decide_eq_true h,decide_eq_true q];rfl,hw⟩
theorem lH(t:List aT)(i:Int)(w:World)(ht:Rd.rd ft w ct.toList t)(h:i<0∨(t.length:Int) - 1<i):
  Qz 117 #[.agg ct,.int .i64 i] w (.bool false):=
 (xU t i w ht).mono fun e w' ⟨he,hw⟩=>⟨by rw[he,Bool.and_eq_false_iff.2 (h.imp (fun h=>decide_eq_false (by omega)) (fun h=>decide_eq_false (by omega)))],hw⟩
theorem BG{cs:Array Value}(x:aT)(id:Int)(b:Nat)(w:World)(h:Rd.rd fp w cs.toList x)(hc:w.cell? ⟨b,0,none⟩=some (.int .i64 id)):
  Qz 182 #[.agg cs,.pointer (some ⟨b,0,none⟩)] w (.bool (decide (x.1=id))):=by
 have hb:=blk hc;obtain⟨q0,q1,q2,q3,q4,q5,a5,q,f5,rfl,rfl,-,-,-,-,-,-,-,-,-⟩:=Lr h;clear h;delta Qz;go_in;go_wp2_with fail;go_ret;exact⟨aa (by simp[BEq.beq]),gd⟩
theorem ji(t:fU)(i:Int)(w:World)(ht:Rd.rd ft w ct.toList t):
  Qz 141 #[.agg ct,.int .i64 i] w (.int .i64 (dQ t i)):=by
 obtain⟨t0,h,q,T,rfl,rfl,-,B,J,K⟩:=K8 ht;clear ht
 have D:TestNode ((w.alloc (.cells #[.slice h t0.length q] 43)).alloc (.cells #[.int .i64 i] 3)) 182 #[.pointer (some ⟨w.heap.size+1,0,none⟩)] (fun n=>decide (n.1=i)) t0:=
  ⟨Tryz.call182,fun y _ x fp cs O=>BG y i (w.heap.size+1) _ O (Gr.keep (Gr.ext (Gr.refl _) x) (aJ (by simp) rfl))⟩
 have I:=Kz D;clear D;delta Qz;go_in;go_wp2_with fail;refine(l9 _ _ t0 _ _ _ _ (B.gr gd) I.o).mono ?_;rintro e w' ⟨rfl,U,rfl⟩;go_wp2_with fail;go_ret;exact⟨rfl,gd⟩
theorem jM{fg:List Nat}{cg:Array Value}(g:(af d))(t:fU)(i:Int)(w:World)(hg:Rd.rd fg w cg.toList g)(ht:Rd.rd ft w ct.toList t):
  Qz 87 #[.agg cg,.agg ct,.int .i64 i] w (.string (zB g t i)):=by
 have HG:=Kz hg;obtain⟨g0,g1,ag0,kg0,cK,ag1,kg1,cO,rfl,rfl,-,dB,aj,ak,dS,au,ax⟩:=yt hg;clear hg;have Z:=Kz ht;obtain⟨t0,dV,O,fe,rfl,rfl,-,T,ay,aZ⟩:=K8 ht;have U:=T.op3;clear ht
 by_cases q:0≤i∧i≤(t0.length:Int) - 1
 ·obtain⟨n,rfl⟩:∃n:Nat,i=n:=⟨i.toNat,by omega⟩
  have D:n<t0.length:=by omega
  have HI:=Kz q;have hs:zB (g0,g1) t0 (n:Int)=leftOf (g0,g1) t0[n]:=by unfold zB;rw[gG D]
  have V:=Kz hs;clear q hs;obtain⟨b,off,rfl,h⟩:=U n D;obtain⟨q0,q1,q2,q3,q4,q5,fu,gD,gF,gT,ae,gV,gX,ik,iw,kr,ku,ky,bg,bq,lq,oH,oL,o5,ah,o9,qb⟩:=KZ T D (Gr.refl _);have i0:(0:Int)≤(n:Int):=by omega
  have i1:(n:Int)<(t0.length:Int):=by omega
  delta Qz;go_in;go_wp2_with fail;refine(gQ t0 _ _ (Rd.gr Z.o gd) HI.o.1 HI.o.2).mono ?_;rintro e w' ⟨rfl,X,rfl⟩;go_wp2_with fail;generalize I:(((w.alloc (.cells #[.slice ag0 g0.length kg0,.slice ag1 g1.length kg1] 39)).alloc (.cells #[.slice (some ⟨b,off,none⟩) t0.length O] 43)).ext X)=B;have Y:Gr w B:=gb I;obtain⟨q8,q9⟩:=kb2 I (w.heap.size) (.slice ag0 g0.length kg0) (.slice ag1 g1.length kg1);have sO:=kb I (w.heap.size+1) 0 (.slice (some ⟨b,off,none⟩) t0.length O);have sB:B.heap.size=w.heap.size+2+X.objs.size:=szB I;clear I;have kq:=fun(w':World) (hg:Gr B w')=>(Y.trans hg).keep ah
  go_region_held3 (fun w'=>Gr B w') (exact ga)
   (first|(go_at_call 118;refine(iL (g0,g1) q4 _ (Rd.gr HG.o (Y.trans ga))).mono ?_;rintro e w' ⟨es,fq,rfl,hr,-,x2,rfl⟩;obtain⟨r0,r1,r2,r3,r4,r5,uf,uo,uq,uz,u6,ve,vB,vD,vF,J,rfl,-,vG,vL,vO,bB,bH,vR,bL,bR,vX,bX,cB⟩:=KV (x:=(dJ g1 q4).getD fH) hr;have ai:=Kz J;have wF:=Lt J hr;clear hr J;obtain⟨bb,h⟩:∃b:Bool,b=(dJ g1 q4).isSome:=⟨_,rfl⟩;rw[←h];have wL:=Kz h;clear h))
  all_goals
   go_wp2_with fail;go_ret;exact⟨E8 (by rw[V.o,←ae.o];unfold leftOf;rw[←ai.o]),Y.trans gd⟩
 ·have K:i<0∨(t0.length:Int) - 1<i:=by omega
  have HO:=Kz K;have hs:zB (g0,g1) t0 i=ByteArray.empty:=by unfold zB;rw[jY K]
  have V:=Kz hs;clear q K hs;delta Qz;go_in;go_wp2_with fail;refine(lH t0 _ _ (Rd.gr Z.o gd) HO.o).mono ?_;rintro e w' ⟨rfl,X,rfl⟩;go_wp2_with fail;go_ret;exact⟨by rw[V.o];rfl,gd⟩
abbrev uX(base:Nat):=Int×Int×Int×Int×ByteArray×fZ base 3
def BC{base:Nat}(x:uX base):aT:=(x.1,x.2.1,x.2.2.1,x.2.2.2.1,x.2.2.2.2.1,x.2.2.2.2.2.o)
theorem uH{cs:List Value}(q0 q1 q2 q3:Int)(q4:ByteArray)(q5:fZ base 3)(h:Rd.rd (α:=uX base) fp w cs (q0,q1,q2,q3,q4,q5)):
  ∃v,cs=[.int .i64 q0,.int .i64 q1,.int .i64 q2,.int .i64 q3,.string q4,v]∧fp=v.ownBlock.toList∧(Lit.int .i64 q0).wf=true∧(Lit.int .i64 q1).wf=true∧(Lit.int .i64 q2).wf=true∧(Lit.int .i64 q3).wf=true∧q4.size≤maxLen∧Rd.rd v.ownBlock.toList w [v] q5:=by
 obtain⟨_,_,_,_,rfl,rfl,⟨rfl,rfl,q⟩,⟨_,_,_,_,rfl,rfl,⟨rfl,rfl,B⟩,⟨_,_,_,_,rfl,rfl,⟨rfl,rfl,D⟩,⟨_,_,_,_,rfl,rfl,⟨rfl,rfl,I⟩,⟨_,_,_,_,rfl,rfl,⟨rfl,rfl,J⟩,⟨v,rfl,h1,K,rfl⟩⟩⟩⟩⟩⟩:=h;exact⟨v,rfl,by simp,q,B,D,I,J,v,rfl,h1,K,rfl⟩
theorem qH(q0 q1 q2 q3:Int)(q4:ByteArray){q5:fZ base 3}(q:(Lit.int .i64 q0).wf=true)(B:(Lit.int .i64 q1).wf=true)(D:(Lit.int .i64 q2).wf=true)(I:(Lit.int .i64 q3).wf=true)(J:q4.size≤maxLen)(h:Rd.rd v.ownBlock.toList w [v] q5):
  Rd.rd (α:=uX base) v.ownBlock.toList w [.int .i64 q0,.int .i64 q1,.int .i64 q2,.int .i64 q3,.string q4,v] (q0,q1,q2,q3,q4,q5):=by
 have:v.ownBlock.toList=[]++([]++([]++([]++([]++v.ownBlock.toList)))):=by simp
 rw[this];exact⟨_,_,_,_,rfl,rfl,⟨rfl,rfl,q⟩,⟨_,_,_,_,rfl,rfl,⟨rfl,rfl,B⟩,⟨_,_,_,_,rfl,rfl,⟨rfl,rfl,D⟩,⟨_,_,_,_,rfl,rfl,⟨rfl,rfl,I⟩,⟨_,_,_,_,rfl,rfl,⟨rfl,rfl,J⟩,by simpa using h⟩⟩⟩⟩⟩
def lC(w0 w:World)(v:Value)(F:List Nat)(ns:List aT):Prop:=
 ∃(fps:List (List Nat)) (xs:List (uX w0.heap.size)),bE w0 130 w v fps xs∧xs.map BC=ns∧fps.flatten.Nodup∧(∀b∈fps.flatten,w0.heap.size≤b)∧F=v.ownBlock.toList++fps.flatten
theorem lC.nil(w0 w:World):lC w0 w (.slice none 0 0) [] []:=⟨[],[],bE.nil _ _ _,rfl,by simp,by simp,rfl⟩
theorem lC.lt(h:lC w0 w v F ns):∀b∈F,b<w.heap.size:=by
 obtain⟨fps,xs,h1,q,B,D,rfl⟩:=h;intro b hb
 rcases List.mem_append.1 hb with hb|hb
 ·exact(h1.base b (by simpa using hb)).2
 ·exact h1.lt b hb
theorem lC.ge(h:lC w0 w v F ns):∀b∈F,w0.heap.size≤b:=by
 obtain⟨fps,xs,h1,B,D,q,rfl⟩:=h;intro b hb
 rcases List.mem_append.1 hb with hb|hb
 ·exact(h1.base b (by simpa using hb)).1
 ·exact q b hb
theorem lC.own(h:lC w0 w v F ns):∀b∈v.ownBlock.toList,b∈F:=by
 obtain⟨fps,xs,h1,q,B,D,rfl⟩:=h;intro b hb
 exact mem_append_left _ hb
theorem lC.form(h:lC w0 w v F ns):∃a c,v=.slice a ns.length c:=by
 obtain⟨fps,xs,h1,rfl,-⟩:=h;rw[length_map];exact h1.form
theorem lC.wr{fq:List Nat}(h:lC w0 w v F ns)(hw:Wr fq w w')(q:∀b∈F,b∉fq):lC w0 w' v F ns:=by
 obtain⟨fps,xs,h1,B,D,I,rfl⟩:=h;exact⟨fps,xs,h1.wr hw (fun b hb=>q b (mem_append_right _ hb)) (fun b hb=>q b (mem_append_left _ (by simpa using hb))),B,D,I,rfl⟩
theorem lC.gr(h:lC w0 w v F ns)(hg:Gr w w'):lC w0 w' v F ns:=h.wr (hg.eF []) (by simp)
theorem EM{xs:List (uX base)}(h:xs.map BC=ns){i:Nat}(y:uX base):(xs.set i y).map BC=ns.set i (BC y):=by
 rw[←h,List.map_set]
theorem lC.at(h:lC w0 w v F ns){i:Nat}(hi:i<ns.length):
  ∃g cap q J,v=.slice (some ⟨g,0,none⟩) ns.length cap∧g<w.heap.size∧w0.heap.size≤g∧g∈F∧(∀j u,[Value.int .i64 ns[i].1,.int .i64 ns[i].2.1,.int .i64 ns[i].2.2.1,.int .i64 ns[i].2.2.2.1,.string ns[i].2.2.2.2.1,q][j]?=some u→w.cell? ⟨g,i*6+j,none⟩=some u)∧(∀o,w.frozen? ⟨g,o,none⟩=false)∧
   bE (α:=Int) w0 3 w q J ns[i].2.2.2.2.2∧J.flatten=[]∧g∉q.ownBlock.toList∧(∀b∈q.ownBlock.toList,b∈F)∧
   (∀U v9 Y,Wr q.ownBlock.toList w U→bE (α:=Int) w0 3 U v9 (J++[[]]) Y→(v9.ownBlock=q.ownBlock∨∃n,v9.ownBlock=some n∧w.heap.size≤n)→
    ∃F',lC w0 (U.setCell ⟨g,i*6+5,none⟩ v9) v F' (ns.set i (ns[i].1,ns[i].2.1,ns[i].2.2.1,ns[i].2.2.2.1,ns[i].2.2.2.2.1,Y))∧∀b∈F',b∈F∨w.heap.size≤b)∧
   (∀y,(Lit.int .i64 y).wf=true→lC w0 (w.setCell ⟨g,i*6,none⟩ (.int .i64 y)) v F (ns.set i (y,ns[i].2))):=by
 obtain⟨fps,xs,hO,rfl,Z,ai,rfl⟩:=h;have bL:i<xs.length:=by simpa using hi
 have hbase:=hO.base;have bR:=hO.apart;have bB:=hO.lt;obtain⟨g,cap,cs,fq,rfl,h1,h2,h3,h4,h5,h6,h7,h8⟩:=hO.upd bL;obtain⟨K,T⟩:=List.getElem?_eq_some_iff.1 h4;have O:(xs.map BC)[i]=BC xs[i]:=by simp
 obtain⟨X,hX⟩:=nm (xs[i]);rw[←hX] at O h6;obtain⟨q0,q1,q2,q3,q4,q5⟩:=X;obtain⟨q,rfl,B,bX,aj,ak,au,ax,ay⟩:=uH q0 q1 q2 q3 q4 q5 h6;obtain⟨cB,J,e1,-,cK,cO⟩:=fZ.zP ay;obtain rfl:q=cB:=by simpa using e1
 have hsub:∀c∈fq,c∈fps.flatten:=fun c hc=>List.mem_flatten.2 ⟨_,List.getElem_mem K,by rw[T];exact hc⟩
 have D:g∉fq:=fun hm=>bR g rfl (hsub g hm)
 have hn:Rd.n (uX w0.heap.size)=6:=rfl
 have aZ:∀k (hk:k<fps.length),k≠i→∀c∈fps[k],c∉fq:=fun k hk dB c hc ae=>by
  have hp:=List.pairwise_iff_getElem.1 (List.pairwise_flatten.1 Z).2;rw[←T] at ae;rcases Nat.lt_or_gt_of_ne dB with dS|dV
  ·exact hp k i hk K dS c hc c ae rfl
  ·exact hp i k K hk dV c ae c hc rfl
 rw[hn] at h5;refine⟨g,cap,q,J,by rw[length_map],h2,h1,by simp[Value.ownBlock],?_,h7,?_,cO,by rw[←B];exact D,fun b hb=>mem_append_right _ (hsub b (by rw[B];exact hb)),fun U v9 Y hw bg fe=>?_,fun y hy=>?_⟩
 ·rw[O];exact h5
 ·rw[O];exact cK
 ·rw[←B] at hw
  have I:∀c∈v9.ownBlock.toList,c∈fq∨w.heap.size≤c:=by
   intro c hc
   rcases fe with e9|⟨n,e9,hn⟩
   ·rw[e9,←B] at hc;exact .inl hc
   ·rw[e9] at hc
    simp at hc;subst hc;exact .inr hn
  have bq:g∉v9.ownBlock.toList:=fun hm=>by
   rcases I g hm with h|h
   ·exact D h
   ·omega
  have ah:Rd.rd v9.ownBlock.toList (U.setCell ⟨g,i*6+5,none⟩ v9) [v9] (fZ.mk w0.heap.size 3 Y):=Rd.wr bg.xq ((Wr.refl [g] _).setCell (by simp) v9) (fun c hc hm=>by simp at hm;subst hm;exact bq hc);have hr:=qH q0 q1 q2 q3 q4 bX aj ak au ax ah;have V:=h8 U 5 v9 v9.ownBlock.toList (q0,q1,q2,q3,q4,fZ.mk w0.heap.size 3 Y) hw D aZ (by rw[hn];omega) bq (by rw[hn];exact hr);rw[hn] at V;refine⟨_,⟨_,_,V,?_,oU Z K (by cases v9.ownBlock<;>simp) fun c hc=>?_,fun b hb=>?_,rfl⟩,fun b hb=>?_⟩
  ·rw[EM rfl,O];rfl
  ·rcases I c hc with h|h
   ·rw[←T] at h;exact .inl h
   ·exact .inr fun hm=>by have:=bB c hm;omega
  ·rcases gq hb with hb|hb
   ·exact ai b hb
   ·exact(bg.base b (by simpa using hb)).1
  ·rcases List.mem_append.1 hb with hb|hb
   ·exact .inl (mem_append_left _ hb)
   ·rcases gq hb with hb|hb
    ·exact .inl (mem_append_right _ hb)
    ·rcases I b hb with h|h
     ·exact .inl (mem_append_right _ (hsub b h))
     ·exact .inr h
 ·have ah:Rd.rd q.ownBlock.toList (w.setCell ⟨g,i*6+0,none⟩ (.int .i64 y)) [q] q5:=Rd.wr ay ((Wr.refl [g] _).setCell (by simp) _) (fun c hc hm=>by simp at hm;subst hm;rw[←B] at hc;exact D hc)
  have hr:=qH y q1 q2 q3 q4 hy aj ak au ax ah;have V:=h8 w 0 (.int .i64 y) fq (y,q1,q2,q3,q4,q5) (Wr.refl _ _) D aZ (by rw[hn];omega) D (by rw[hn,B];exact hr);rw[hn,Nat.add_zero] at V;have bH:fps.set i fq=fps:=by rw[←T];exact List.set_getElem_self K
  rw[bH] at V;refine⟨_,_,V,?_,Z,ai,rfl⟩;rw[EM rfl,O];rfl
theorem lC.read(h:lC w0 w v F ns)(hl:ns.length≤bn)(K:∀x∈ns,x.2.2.2.2.2.length≤bn):
  ∃fq,SlR fq w v ns∧aY w0 fq∧∀b∈fq,b∈F:=by
 obtain⟨fps,xs,J,rfl,O,T,rfl⟩:=h;have I:=J.fl;have hbase:=J.base;obtain⟨⟨q,ho,D⟩,U⟩:=J
 have each:∀i,∃fq:List Nat,∀(h:i<xs.length) (h1:i<q.length) (B:i<fps.length),Rd.rd (α:=aT) fq w q[i] (BC xs[i])∧fq.Sublist fps[i]:=by
  intro i
  by_cases hi:i<xs.length
  ·have h1:i<q.length:=by rw[D.cl];exact hi
   have B:i<fps.length:=by rw[I];exact hi
   have V:=D.rd i hi h1 B;have Y:(BC xs[i]).2.2.2.2.2.length≤bn:=K _ (List.mem_map.2 ⟨_,List.getElem_mem hi,rfl⟩);obtain⟨X,Z⟩:=nm (xs[i]);rw[←Z] at V Y;obtain⟨q0,q1,q2,q3,q4,q5⟩:=X;obtain⟨vj,e,ae,ah,ai,aj,ak,au,ax⟩:=uH q0 q1 q2 q3 q4 q5 V;obtain⟨fq,⟨v5,e5,hr⟩,hs⟩:=fZ.read ax Y;obtain rfl:vj=v5:=by simpa using e5
   refine⟨[]++([]++([]++([]++([]++fq)))),fun _ _ _=>⟨?_,?_⟩⟩
   ·rw[e,←Z];exact tF q0 q1 q2 q3 q4 _ ah ai aj ak au hr
   ·rw[ae];simpa using hs
  ·exact⟨[],fun h=>absurd h hi⟩
 obtain⟨f,hf⟩:=Classical.axiomOfChoice each
 have hsub:∀(l:List (List Nat)) (g:Nat→List Nat),(∀i (h:i<l.length),(g i).Sublist l[i])→((List.range l.length).map g).flatten.Sublist l.flatten:=by
  intro l
  induction l with
  |nil=>intro g _;simp
  |cons a l ih=>
   intro g hg
   rw[List.length_cons,List.range_succ_eq_map,List.map_cons,List.flatten_cons,List.flatten_cons,List.map_map];exact(hg 0 (by simp)).append (ih (g∘Nat.succ) fun i hi=>hg (i+1) (by simpa using hi))
 have hs:=hsub fps f fun i hi=>(hf i (by omega) (by rw[D.cl];omega) hi).2
 have ay:bE (α:=aT) w0 130 w v ((List.range fps.length).map f) (xs.map BC):=by
  refine⟨⟨q,by rw[length_map];exact ho,⟨by simp[D.cl],by simp[I],fun i h0 h1 B=>?_⟩⟩,fun b hb hm=>U b hb (hs.subset hm)⟩;have aZ:i<xs.length:=by simpa using h0
  simpa using(hf i aZ h1 (by omega)).1
 obtain⟨fq,h1,B⟩:=ay.slR hl;refine⟨fq,h1,?_,?_⟩
 ·rcases B with⟨_,rfl⟩|⟨b,hb,rfl⟩
  ·exact aY.nil _
  ·refine⟨List.nodup_cons.2 ⟨fun hm=>U b hb (hs.subset hm),hs.nodup O⟩,fun c hc=>?_⟩
   rcases List.mem_cons.1 hc with rfl|hc
   ·exact(hbase _ hb).1
   ·exact T c (hs.subset hc)
 ·rcases B with⟨_,rfl⟩|⟨b,hb,rfl⟩
  ·simp
  ·intro c hc
   rcases List.mem_cons.1 hc with rfl|hc
   ·exact mem_append_left _ (by simpa using hb)
   ·exact mem_append_right _ (hs.subset hc)
theorem bE.FB{α:Type}[Rd α](e:TypeId)(h:w0.heap.size≤w.heap.size){g:Nat}(hg:g=w.heap.size){cs:Array Value}{fq:List Nat}{x:α}(hr:Rd.rd fq w cs.toList x):bE w0 e (w.alloc (.cells cs e)) (.slice (some ⟨g,0,none⟩) 1 1) [fq] [x]:=by
 subst hg;refine⟨⟨[cs.toList],?_,(Els.one hr).mono (((Gr.refl w).alloc _).lN (by simpa using Rd.lt hr))⟩,fun b hb hm=>?_⟩
 ·have q:=Rd.len hr
  have:=World.ownsRow_lit (base:=w0.heap.size) (e:=e) (size:=Rd.n α) w cs 1 h (by unfold maxLen;omega) (by simpa using q);simpa using this
 ·injection hb with hb
  subst hb;exact Nat.lt_irrefl _ (Rd.lt hr _ (by simpa using hm))
theorem lC.FB(h:w0.heap.size≤w.heap.size){g:Nat}(hg:g=w.heap.size){q0 q1 q2 q3:Int}{q4:ByteArray}{q5:List Int}{c:Value}{q:List (List Nat)}(B:(Lit.int .i64 q0).wf=true)(D:(Lit.int .i64 q1).wf=true)(I:(Lit.int .i64 q2).wf=true)(J:(Lit.int .i64 q3).wf=true)(K:q4.size≤maxLen)(hc:bE (α:=Int) w0 3 w c q q5):
  lC w0 (w.alloc (.cells #[.int .i64 q0,.int .i64 q1,.int .i64 q2,.int .i64 q3,.string q4,c] 130)) (.slice (some ⟨g,0,none⟩) 1 1) (g::c.ownBlock.toList) [(q0,q1,q2,q3,q4,q5)]:=by
 have hb:=hc.base;refine⟨[c.ownBlock.toList],[(q0,q1,q2,q3,q4,fZ.mk w0.heap.size 3 q5)],bE.FB (α:=uX w0.heap.size) 130 h hg (qH q0 q1 q2 q3 q4 B D I J K hc.xq),rfl,?_,?_,?_⟩
 ·cases c.ownBlock<;>simp
 ·intro b hm
  exact(hb b (by simpa using hm)).1
 ·simp[Value.ownBlock]
theorem Wr.vZ(h:Wr fp w w'){b o:Nat}{r:Bool}(hc:w.frozen? ⟨b,o,none⟩=r)(q:b<w.heap.size)(hn:b∉fp):w'.frozen? ⟨b,o,none⟩=r:=
 (World.frozen?_of_block (a:=⟨b,o,none⟩) (h.block b q hn)).trans hc
section
variable{P:Program}
end
end Go.Proofs.YtleafadpfeibfaaGreat
