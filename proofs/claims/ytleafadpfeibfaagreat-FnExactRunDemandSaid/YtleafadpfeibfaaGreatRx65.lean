/- Contracts and laws behind those of ReadsOf, part 1. No condition. -/
import Derived.Test.YtleafadpfeibfaaGreatRx46
set_option maxHeartbeats 32000000
set_option maxRecDepth 10000
set_option linter.unusedVariables false
set_option linter.unusedSimpArgs false
namespace Go.Proofs.YtleafadpfeibfaaGreat
open Go.RowKit
variable{d:Nat}
variable{n kg0 kg1 kt:Nat}{fg ft:List Nat}{ag0 ag1 at_:Option Addr}
theorem Tryz.FC:(Tryz.prog.info? 54).map (fun i=>(i.zero,i.size,i.bytes))=some (some (.slice none 0 0),1,24):=by kernel_rfl
def Ku(w:World)(g:af d)(t:List aT)(ag0:Option Addr)(kg0:Nat)(ag1:Option Addr)(kg1:Nat)(at_:Option Addr)(kt:Nat)(e:Ending)(w':World):Prop:=
 ∃(w1:World) (aL:Option Addr) (kL bz bv bs br:Nat) (fp:List Nat),e=.returned (.pointer (some ⟨bz,0,none⟩))∧Gr w w1∧(∃fl,SlR fl w1 (.slice aL (bU g t).length kL) (bU g t)∧aY w fl)∧
  SpC w1 (.slice ag0 g.1.length kg0) (.slice ag1 g.2.length kg1) (.slice at_ t.length kt) (.slice aL (bU g t).length kL) (bU g t).length bz bv bs br fp (Eng.new (bU g t).length) false w'
theorem EE(n:Nat):OkE n n (Eng.new n):=by
 have hr:∀j,(List.replicate n ([]:List Nat)).getD j []=[]:=fun j=>by
  simp only[List.getD_eq_getElem?_getD,List.getElem?_replicate]
  split<;>rfl
 have q:∀n,pM 0 (List.replicate n 0)=n:=fun n=>by
  induction n with
  |zero=>rfl
  |succ n D=>simp[pM,List.replicate_succ]
 have B:∀n,pM 2 (List.replicate n 0)=0:=fun n=>by
  induction n with
  |zero=>rfl
  |succ n D=>simp[pM,List.replicate_succ]
 refine⟨?_,fun j h=>hr j,fun j=>?_,fun j k h=>?_,?_,fun x h=>?_,by simp[Eng.new],by simp[Eng.new]⟩
 ·exact Nat.le_of_eq (q n)
 ·show((List.replicate n ([]:List Nat)).getD j []).length≤2000
  rw[hr j]
  decide
 ·change k∈(List.replicate n ([]:List Nat)).getD j [] at h
  rw[hr j] at h
  cases h
 ·show(0:Int)=((pM 2 (List.replicate n 0):Nat):Int)
  rw[B n];rfl
 ·simp[Eng.new] at h
  omega
theorem gH{A:World}{o:Obj}(h:n=A.heap.size):(A.alloc o).heap[n]?=some o:=by subst h;exact heap_alloc_new A o
theorem dU{A:World}{o:Obj}(h:n<A.heap.size):(A.alloc o).heap[n]?=A.heap[n]?:=(gd:Gr A (A.alloc o)).below.block n h
theorem Jc{w1 W:World}{v0 v1 v2 v3:Value}{bz bv bs br:Nat}{q B:Array Value}(hn:n≤64)(D:q.toList=List.replicate n (.int .i64 0))(I:B.toList=List.replicate n (.slice none 0 0))(hg:Gr w1 W)
  (hz:W.heap[bz]?=some (.cells #[v0,v1,v2,v3,.slice (some ⟨bv,0,none⟩) n n,.slice (some ⟨bs,0,none⟩) n n,.slice (some ⟨br,0,none⟩) n n,.int .i64 0,.bool false] 76))
  (hv:W.heap[bv]?=some (.cells q 3)) (hs:W.heap[bs]?=some (.cells q 3)) (hr:W.heap[br]?=some (.cells B 54))
  (J:[bz,bv,bs,br].Nodup) (h:w1.heap.size≤bz∧w1.heap.size≤bv∧w1.heap.size≤bs∧w1.heap.size≤br):SpC w1 v0 v1 v2 v3 n bz bv bs br [bz,bv,bs,br] (Eng.new n) false W:=by
 have K:q=((List.replicate n (0:Int)).map (Value.int .i64)).toArray:=Array.toList_inj.1 (by simp[D]);have V:br<W.heap.size:=(Array.getElem?_eq_some_iff.1 hr).1;obtain⟨A,O⟩:∃A:World,A.heap.size=br:=⟨{W with heap:=W.heap.extract 0 br},by simp;omega⟩;have hm:=bE.Jv (w0:=w1) (w:=A) 54 (by omega) n (fZ.mk w1.heap.size 3 []) (by rfl) (fun W=>fZ.GG _ _ W) I (by unfold maxLen;omega);rw[O] at hm
 have T:bE (α:=fZ w1.heap.size 3) w1 54 W (.slice (some ⟨br,0,none⟩) n n) (List.replicate n []) (List.replicate n (fZ.mk w1.heap.size 3 [])):=hm.same (fun b hb=>by simp at hb) (fun b hb=>by
  obtain rfl:=ownB hb;rw[hr];exact(gH O.symm).symm)
 refine⟨hg,hz,?_,?_,⟨List.replicate n [],?_,by simp,by simp,by simp⟩,J,?_,by simp[Eng.new],by simp[Eng.new],by simp[Eng.new],?_⟩
 ·unfold jZ az
  rw[hv,K];rfl
 ·unfold jZ az
  rw[hs,K];simp[Eng.new]
 ·simpa[Eng.new] using T
 ·intro b hb
  simp at hb;rcases hb with rfl|rfl|rfl|rfl
  ·exact h.1
  ·exact h.2.1
  ·exact h.2.2.1
  ·exact h.2.2.2
 ·intro x U
  simp[Eng.new] at U;rw[U.2]
  decide
theorem GA(g:af d)(t:List aT)(w:World)(hg:Rd.rd fg w [.slice ag0 g.1.length kg0,.slice ag1 g.2.length kg1] g)(ht:Rd.rd ft w [.slice at_ t.length kt] t)(hl:aP g≤1048576)(hgood:jI g)(D:fP g t=true):
  Calls Tryz.prog 69 #[.agg #[.slice ag0 g.1.length kg0,.slice ag1 g.2.length kg1],.agg #[.slice at_ t.length kt]] w (Ku w g t ag0 kg0 ag1 kg1 at_ kt):=by
 have ak:=(jv.1 D).1.2;have hn:=jX hgood D;obtain⟨L,hL⟩:=nm (bU g t);have HL:=Kz hL;rw[←hL] at hn;have HN:=Kz hn;obtain⟨i0,hi,I,J,K⟩:=info_parts Tryz.kJ;have q:=fun(W:World)=>run_make (P:=Tryz.prog) W 54 3 i0 (.int .i64 0) Tryz.underlying54 hi I .i64 .i64 L.length L.length (by omega) (by omega) (by rw[K];omega) (by omega)
 rw[J] at q;obtain⟨i1,gi,O,T,U⟩:=info_parts Tryz.FC;have B:=fun(W:World)=>run_make (P:=Tryz.prog) W 74 54 i1 (.slice none 0 0) Tryz.underlying74 gi O .i64 .i64 L.length L.length (by omega) (by omega) (by rw[U];omega) (by omega)
 rw[T] at B;clear hi I J K gi O T U;simp only[Int.toNat_natCast,Nat.mul_one] at q B;have V:(Value.int .i64 0).cells=#[.int .i64 0]:=rfl;have X:(Value.slice none 0 0).cells=#[.slice none 0 0]:=rfl;rw[V] at q;rw[X] at B;have Y:=Kz (show(madeCells #[.slice none 0 0] L.length).toList=List.replicate L.length (.slice none 0 0) by rw[toList_madeCells_one]);have Z:=Kz (show(madeCells #[.int .i64 0] L.length).toList=List.replicate L.length (.int .i64 0) by rw[toList_madeCells_one]);generalize madeCells #[.int .i64 0] L.length=C1 at q Z;generalize madeCells #[.slice none 0 0] L.length=C2 at B Y;clear V X hL hn;go_in;go_wp2_with fail;refine(yM g t _ (Rd.gr hg gd) (Rd.gr ht gd) hl (by omega)).mono ?_;rintro e w1 ⟨v,fq,rfl,hs,ae,g1⟩;rw[←HL.o] at hs;obtain⟨aL,kL,rfl,-,-,-⟩:=hs.open;have HS:=Kz hs;have ah:=Kz (ae.of_le (Gr.size (gd:Gr w _)));have ai:=Kz (Gr.trans gd g1:Gr w w1);have c2:w1.cell? ⟨w.heap.size,0,none⟩=some (.slice ag0 g.1.length kg0):=g1.keep (Gr.keep gd (aJ (A:=w) rfl rfl));have au:w1.cell? ⟨w.heap.size,1,none⟩=some (.slice ag1 g.2.length kg1):=g1.keep (Gr.keep gd (aJ (A:=w) rfl rfl));have c3:w1.cell? ⟨w.heap.size+1,0,none⟩=some (.slice at_ t.length kt):=g1.keep (by have h:=aJ (A:=w.alloc (.cells #[.slice ag0 g.1.length kg0,.slice ag1 g.2.length kg1] 39)) (t:=43) (C:=#[.slice at_ t.length kt]) (j:=0) (n:=w.heap.size+1) (by simp) rfl;exact h);have z2:=blk c2;have z3:=blk c3;clear hs ae g1 hg ht hl;go_wp2_with fail
 go_cut [4] (fun s4 wr=>∃(bz bv bs br:Nat) (fp:List Nat),s4=.pointer (some ⟨bz,0,none⟩)∧SpC w1 (.slice ag0 g.1.length kg0) (.slice ag1 g.2.length kg1) (.slice at_ t.length kt) (.slice aL L.length kL) L.length bz bv bs br fp (Eng.new L.length) false wr)
 case first=>
  go_region
  all_goals
   go_wp2_with fail;go_meet;refine⟨_,_,_,_,_,rfl,Jc HN.o Z.o Y.o gd (by exact gH (by simp)) ?_ ?_ ?_ ?_ ?_⟩
   ·first|exact gH (by first|(simp;done)|(simp;omega)|omega)|exact(dU (by first|(simp;done)|(simp;omega)|omega)).trans (gH (by first|(simp;done)|(simp;omega)|omega))|exact(dU (by first|(simp;done)|(simp;omega)|omega)).trans ((dU (by first|(simp;done)|(simp;omega)|omega)).trans (gH (by first|(simp;done)|(simp;omega)|omega)))|exact(dU (by first|(simp;done)|(simp;omega)|omega)).trans ((dU (by first|(simp;done)|(simp;omega)|omega)).trans ((dU (by first|(simp;done)|(simp;omega)|omega)).trans (gH (by first|(simp;done)|(simp;omega)|omega))))
   ·first|exact gH (by first|(simp;done)|(simp;omega)|omega)|exact(dU (by first|(simp;done)|(simp;omega)|omega)).trans (gH (by first|(simp;done)|(simp;omega)|omega))|exact(dU (by first|(simp;done)|(simp;omega)|omega)).trans ((dU (by first|(simp;done)|(simp;omega)|omega)).trans (gH (by first|(simp;done)|(simp;omega)|omega)))|exact(dU (by first|(simp;done)|(simp;omega)|omega)).trans ((dU (by first|(simp;done)|(simp;omega)|omega)).trans ((dU (by first|(simp;done)|(simp;omega)|omega)).trans (gH (by first|(simp;done)|(simp;omega)|omega))))
   ·first|exact gH (by first|(simp;done)|(simp;omega)|omega)|exact(dU (by first|(simp;done)|(simp;omega)|omega)).trans (gH (by first|(simp;done)|(simp;omega)|omega))|exact(dU (by first|(simp;done)|(simp;omega)|omega)).trans ((dU (by first|(simp;done)|(simp;omega)|omega)).trans (gH (by first|(simp;done)|(simp;omega)|omega)))|exact(dU (by first|(simp;done)|(simp;omega)|omega)).trans ((dU (by first|(simp;done)|(simp;omega)|omega)).trans ((dU (by first|(simp;done)|(simp;omega)|omega)).trans (gH (by first|(simp;done)|(simp;omega)|omega))))
   ·simp;try omega
   ·simp;try omega
 case rest=>
  obtain⟨bz,bv,bs,br,fp,rfl,aj⟩:=hcut;go_wp2_with fail;go_ret;have hL:=HL.o;subst hL;exact⟨w1,aL,kL,bz,bv,bs,br,fp,rfl,ai.o,⟨fq,HS.o,ah.o⟩,aj.grow gd⟩
noncomputable def sW(g:af d)(t:List aT)(xs:List av):Option Eng:=
 xs.foldl (fun o x=>o.bind fun s=>(yH g t (bU g t) (bU g t).length s (gL (bU g t) x) (-1)).map (·.2)) (some (Eng.new (bU g t).length))
theorem Fq{g:af d}{t:List aT}{xs:List av}{i:Nat}(h:i<xs.length):sW g t (xs.take (i+1))=((sW g t (xs.take i)).bind fun s=>yH g t (bU g t) (bU g t).length s (gL (bU g t) xs[i]) (-1)).map (·.2):=by
 unfold sW;rw[List.take_succ_eq_append_getElem h,List.foldl_append,Option.map_bind];rfl
def Kt(w:World)(g:af d)(t:List aT)(ag0:Option Addr)(kg0:Nat)(ag1:Option Addr)(kg1:Nat)(at_:Option Addr)(kt:Nat)(o:Option Eng)(e:Ending)(w':World):Prop:=
 ∃(w1:World) (aL:Option Addr) (kL bz bv bs br:Nat) (fp:List Nat),e=.returned (.pointer (some ⟨bz,0,none⟩))∧Gr w w1∧(∃fl,SlR fl w1 (.slice aL (bU g t).length kL) (bU g t)∧aY w fl)∧
  SpS w1 (.slice ag0 g.1.length kg0) (.slice ag1 g.2.length kg1) (.slice at_ t.length kt) (.slice aL (bU g t).length kL) (bU g t).length bz bv bs br (bU g t).length fp o w'
theorem GN{fx:List Nat}(g:af d)(t:List aT)(xs:List av){ax:Option Addr}{kx:Nat}(w:World)(hg:Rd.rd fg w [.slice ag0 g.1.length kg0,.slice ag1 g.2.length kg1] g)(ht:Rd.rd ft w [.slice at_ t.length kt] t)(hx:SlR fx w (.slice ax xs.length kx) xs)(oL:xs.length≤1048576)(hl:aP g≤1048576)(B:gY t≤1048576)(hgood:jI g)(Z:fP g t=true):
  Calls Tryz.prog 37 #[.agg #[.slice ag0 g.1.length kg0,.slice ag1 g.2.length kg1],.agg #[.slice at_ t.length kt],.slice ax xs.length kx] w (Kt w g t ag0 kg0 ag1 kg1 at_ kt (sW g t xs)):=by
 have HG:=Kz hg;have HT:=Kz ht;have HX:=Kz hx;have J:=Kz hgood;have ay:=Kz Z;have dB:=Kz B;have aZ:=Kz hl;have dS:=jX hgood Z;obtain⟨L,hL⟩:=nm (bU g t);have HL:=Kz hL;rw[←hL] at dS;clear hg ht hx hgood Z B hl hL;go_in;go_wp2_with fail;refine(GA g t _ (Rd.gr HG.o gd) (Rd.gr HT.o gd) aZ.o J.o ay.o).mono ?_;rintro e w2 ⟨w1,aL,kL,bz,bv,bs,br,fp,rfl,bg,⟨fl,O,bq⟩,ae⟩;have D:=Kz (Gr.trans gd bg:Gr w w1);rw[←HL.o] at O ae;have HE:=Kz (show EnvD w1 g t L ag0 kg0 ag1 kg1 at_ kt aL kL from⟨⟨fg,Rd.gr HG.o D.o⟩,⟨ft,Rd.gr HT.o D.o⟩,⟨fl,O⟩,J.o,ay.o,HL.o,aZ.o,dB.o⟩);have cO:=Kz (En (bz:=bz) (bv:=bv) (bs:=bs) (br:=br) HE.o L.length)
 have dV:=Kz (show SpS w1 (.slice ag0 g.1.length kg0) (.slice ag1 g.2.length kg1) (.slice at_ t.length kt) (.slice aL L.length kL) L.length bz bv bs br L.length fp (sW g t []) w2 from by
  rw[show sW g t []=some (Eng.new L.length) by rw[HL.o];rfl];exact⟨ae,EE _⟩)
 have fe:=Kz (show∃fl,SlR fl w1 (.slice aL L.length kL) L∧aY w fl from⟨fl,O,bq.of_le (Gr.size (gd:Gr w _))⟩);clear bg O bq ae;go_wp2_with fail
 go_loopw [8] (fun s8 wr=>∃(i:Nat) (fp:List Nat),i≤xs.length∧Ky (SpS w1 (.slice ag0 g.1.length kg0) (.slice ag1 g.2.length kg1) (.slice at_ t.length kt) (.slice aL L.length kL) L.length bz bv bs br L.length fp (sW g t (xs.take i)) wr)∧s8=.int .i64 i) (fun s8 _=>xs.length - (intOf s8).toNat)
 case atStart=>exact⟨0,fp,by omega,dV,rfl⟩
 case round=>
  obtain⟨i,f3,hi,T,rfl⟩:=hrel
  rename World=>q
  by_cases B:i<xs.length
  ·obtain⟨s3,oH,I,-⟩:=T.o.core
   obtain⟨a9,k9,ah,fu,gB,bB⟩:=HX.o.open;injection ah with ah _ gD;subst ah;subst gD;obtain⟨bX,oX,rfl,o5⟩:=bB i B;obtain⟨i0,i1,ai,aj⟩:=SlR.iX (show SlR fx w (.slice (some ⟨bX,oX,none⟩) xs.length kx) xs from HX.o) B;obtain⟨X,bH⟩:=nm (xs[i]);have U:=Kz (Fq (g:=g) (t:=t) B);rw[←bH] at i0 i1 ai aj U;obtain⟨x0,x1⟩:=X;have ak:Gr w q:=D.o.trans I.gr;have gF:=Kz (fun W=>bZ (w:=W) x0 x1 ai aj);have j0:=ak.keep i0;have j1:=ak.keep i1;simp only at j0 j1;obtain⟨y0,y1,y2,y3,y8⟩:=I.fixed;have gT:=Kz I
   have bL:bX∉f3:=fun hm=>by
    have h1:=I.ge bX hm;have h3:=D.o.size;omega
   have n0:(0:Int)≤(i:Int):=by omega
   have n1:(i:Int)<(xs.length:Int):=by omega
   have o9:=zI1 i (by omega);have gV:=fun(w':World) (h:Wr f3 q w')=>(⟨h.aO j0 bL,h.aO j1 bL⟩:_∧_)
   rw[←HL.o] at U;obtain⟨KX,V⟩:=nm (gL L (x0,x1));have gX:=Kz V;have ik:=Kz (show KX<L.length by rw[V];exact(kS _ _).1);rw[←V] at U;clear I fu gB bB i0 i1 ai aj bH ak V y0 y1 y8;go_wp2_with fail;refine wp_region_held_drew (S:=fun w'=>Wr f3 q w'∧w'.cell? ⟨bz,3,none⟩=some (.slice aL L.length kL)) (by kernel_rfl) ⟨(gd:Gr q q.drew).eF _,(gd:Gr q q.drew).keep y3⟩ (fun au=>?_);refine aK 0 18 ?_;refine aK 1 19 ?_;refine aK 2 20 ?_;refine aK 3 21 ?_;refine aK 4 22 ?_;refine aK 5 23 ?_;refine aK 6 24 ?_;refine aK 7 25 ?_;refine aK 8 26 ?_;refine gy [9] ?_;refine AllReadyH.cons rfl (fun K hK=>?_) AllReadyH.nil;go_simp
   go_at_call 38
   obtain⟨fl,hl⟩:=HE.o.hL;refine(nC L (x0,x1) _ (hl.gr (gT.o.gr.trans gd)) (gF.o _)).mono ?_;rw[←gX.o];rintro e w' ⟨rfl,x2,rfl⟩;refine hK.out _ _ ⟨(gd:Gr q (q.drew.ext x2)).eF _,(gd:Gr q (q.drew.ext x2)).keep y3⟩ (fun iw=>?_);clear hK K
   try simp only[Act.put,uq1,uq2,uq3]
   refine gy [10] ?_
   refine AllReadyH.cons rfl (fun K hK=>?_) AllReadyH.nil
   go_simp
   go_at_call 70
   refine(cO.o f3 (sW g t (xs.take i)) _ KX (-1) (T.o.grow gd) ik.o (.inl (by decide))).mono ?_;rintro e w4 ⟨v4,f4,rfl,kr,Y,ku,bR⟩;rw[←U.o] at Y;have ky:=Kz Y;obtain⟨s4,c4,cB,-⟩:=Y.core;have e3:=cB.fixed.2.2.2.1;have cK:Wr f3 q w4:=((gd:Gr q (q.drew.ext x2)).eF _).trans bR.wr;clear kr Y ku bR cB;refine hK.out _ _ ⟨cK,e3⟩ (fun lq=>?_);clear hK K
   try simp only[Act.put,uq1,uq2,uq3]
   refine wpAnyH_done (by kernel_rfl) ?_ _
   clear gV e3 cK iw lq au;go_simp;go_wp2_with fail;exact⟨⟨i+1,f4,by omega,Kz (ky.o.grow gd),by go_num⟩,by simp[intOf];omega⟩
  ·obtain rfl:i=xs.length:=by omega
   rw[List.take_length] at T;go_wp2_with fail;go_ret;have hL:=HL.o;subst hL;exact⟨w1,aL,kL,bz,bv,bs,br,f3,rfl,D.o,fe.o,T.o.grow gd⟩
noncomputable def kT(g:af d)(t:List aT):Bool:=pB (jI g)&&fP g t
theorem uW(g:af d)(t:List aT)(w:World)(hg:Rd.rd fg w [.slice ag0 g.1.length kg0,.slice ag1 g.2.length kg1] g)(ht:Rd.rd ft w [.slice at_ t.length kt] t)(O:aP g≤1048576)(D:t.length≤1048576):
  Qz 36 #[.agg #[.slice ag0 g.1.length kg0,.slice ag1 g.2.length kg1],.agg #[.slice at_ t.length kt]] w (.bool (kT g t)):=by
 have I:=Kz hg;have T:=Kz ht;have B:=Kz O;have U:=Kz D;have q:=Kz (fun x:Ext=>Ao g (((w.alloc (.cells #[.slice ag0 g.1.length kg0,.slice ag1 g.2.length kg1] 39)).alloc (.cells #[.slice at_ t.length kt] 43)).ext x) (Rd.gr I.o gd) B.o);have V:=Kz (fun x:Ext=>iC g t 0 (((w.alloc (.cells #[.slice ag0 g.1.length kg0,.slice ag1 g.2.length kg1] 39)).alloc (.cells #[.slice at_ t.length kt] 43)).ext x) (Rd.gr I.o gd) (Rd.gr T.o gd) B.o);have X:=Kz (fun x:Ext=>(lS g t (zB g t 0) (((w.alloc (.cells #[.slice ag0 g.1.length kg0,.slice ag1 g.2.length kg1] 39)).alloc (.cells #[.slice at_ t.length kt] 43)).ext x) (Rd.gr I.o gd) (Rd.gr T.o gd) B.o U.o));clear hg ht O D
 by_cases h:jI g
 ·have J:=Kz (show kT g t=kY g t (zB g t 0) by unfold kT;rw[bQ h];rfl)
  have K:=Kz (bQ h);rw[K.o] at q;clear h;delta Qz;go_in;go_wp2_with fail;refine wg ?_
  iterate 11 (go_big_quiet_step (first|(go_at_call 66;exact aG (q.o _))|(go_at_call 68;exact aG (V.o _))|(go_at_call 67;exact aG (X.o _))))
  refine wq fun Y=>?_
  go_wp2_with fail;go_ret;exact⟨by rw[J.o];rfl,gd⟩
 ·have J:=Kz (show kT g t=false by unfold kT;rw[bV h];rfl)
  have K:=Kz (bV h);rw[K.o] at q;clear h;delta Qz;go_in;go_wp2_with fail;refine wg ?_
  iterate 11 (go_big_quiet_step (first|(go_at_call 66;exact aG (q.o _))))
  refine wq fun Y=>?_
  go_wp2_with fail;go_ret;exact⟨by rw[J.o];rfl,gd⟩
theorem Eo{g:af d}{t:List aT}(h:jI g):∀x∈bU g t,x.2.size≤8:=by
 intro x q
 unfold bU at q
 split at q
 ·obtain⟨n,-,q⟩:=List.mem_flatMap.1 q
  obtain⟨a,B,rfl⟩:=List.mem_map.1 q
  cases e:bW g.1 (leftOf g n) with
  |none=>
   rw[e] at B
   cases (show a∈([]:List aQ) from B)
  |some s=>
   rw[e] at B;exact((h.1.2.2.1.1 s (List.mem_of_find?_eq_some e)).2.2.1 a B).1.2.1
 ·cases q
theorem Ig{α:Type}(f:α→Nat)(xs:List α){K:Nat}(h:∀x∈xs,f x≤K):wtL f xs≤xs.length*(1+K):=by
 induction xs with
 |nil=>simp[wtL]
 |cons x xs q=>
  have h1:=q (fun y B=>h y (List.mem_cons_of_mem _ B));have D:=h x (by simp);simp only[wtL,List.map_cons,List.sum_cons,List.length_cons,Nat.add_mul,Nat.one_mul] at*;omega
end Go.Proofs.YtleafadpfeibfaaGreat
