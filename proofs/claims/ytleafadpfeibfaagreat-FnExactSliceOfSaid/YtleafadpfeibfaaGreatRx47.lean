/- Contracts and laws towards ReadsOf, part 49 of 54. No condition. -/
import Derived.Test.YtleafadpfeibfaaGreatRx46
set_option maxHeartbeats 32000000
set_option maxRecDepth 10000
set_option linter.unusedVariables false
set_option linter.unusedSimpArgs false
namespace Go.Proofs.YtleafadpfeibfaaGreat
open Go.RowKit
open _root_.List (length_map)
open _root_.Nat (le_refl)
variable{d:Nat}
variable{n kg0 kg1 kt:Nat}{fg ft:List Nat}{ag0 ag1 at_:Option Addr}{W:World}
theorem Tryz.FC:(Tryz.prog.info? 54).map (fun i=>(i.zero,i.size,i.bytes))=some (some (.slice none 0 0),1,24):=by kernel_rfl
def Ku(w:World)(g:af d)(t:List aT)(ag0:Option Addr)(kg0:Nat)(ag1:Option Addr)(kg1:Nat)(at_:Option Addr)(kt:Nat)(e:Ending)(w':World):Prop:=
 ∃(w1:World) (aL:Option Addr) (kL bz bv bs br:Nat) (fp:List Nat),e=.returned (.pointer (some ⟨bz,0,none⟩))∧Gr w w1∧(∃fl,SlR fl w1 (.slice aL (bU g t).length kL) (bU g t))∧
  SpC w1 (.slice ag0 g.1.length kg0) (.slice ag1 g.2.length kg1) (.slice at_ t.length kt) (.slice aL (bU g t).length kL) (bU g t).length bz bv bs br fp (Eng.new (bU g t).length) false w'
theorem EE(n:Nat):OkE n n (Eng.new n):=by
 have hr:∀j,(List.replicate n ([]:List Nat)).getD j []=[]:=fun j=>by
  simp only[List.getD_eq_getElem?_getD,List.getElem?_replicate]
  split<;>rfl
 have q:∀n,pM 0 (List.replicate n 0)=n:=fun n=>by
  induction n with
  |zero=>rfl
  |succ n D=>simp[pM,List.replicate_succ]
 have B:∀n,pM 2 (List.replicate n 0)=0:=fun n=>by
  induction n with
  |zero=>rfl
  |succ n D=>simp[pM,List.replicate_succ]
 refine⟨?_,fun j h=>hr j,fun j=>?_,fun j k h=>?_,?_,fun x h=>?_,by simp[Eng.new],by simp[Eng.new]⟩
 ·exact Nat.le_of_eq (q n)
 ·show((List.replicate n ([]:List Nat)).getD j []).length≤2000
  rw[hr j]
  decide
 ·change k∈(List.replicate n ([]:List Nat)).getD j [] at h
  rw[hr j] at h
  cases h
 ·show(0:Int)=((pM 2 (List.replicate n 0):Nat):Int)
  rw[B n];rfl
 ·simp[Eng.new] at h
  omega
theorem gH{A:World}{o:Obj}(h:n=A.heap.size):(A.alloc o).heap[n]?=some o:=by subst h;exact heap_alloc_new A o
theorem dU{A:World}{o:Obj}(h:n<A.heap.size):(A.alloc o).heap[n]?=A.heap[n]?:=(gd:Gr A (A.alloc o)).below.block n h
theorem Jc{w1:World}{v0 v1 v2 v3:Value}{bz bv bs br:Nat}{q B:Array Value}(hn:n≤64)(D:q.toList=List.replicate n (.int .i64 0))(I:B.toList=List.replicate n (.slice none 0 0))(hg:Gr w1 W)
  (hz:W.heap[bz]?=some (.cells #[v0,v1,v2,v3,.slice (some ⟨bv,0,none⟩) n n,.slice (some ⟨bs,0,none⟩) n n,.slice (some ⟨br,0,none⟩) n n,.int .i64 0,.bool false] 76))
  (hv:W.heap[bv]?=some (.cells q 3)) (hs:W.heap[bs]?=some (.cells q 3)) (hr:W.heap[br]?=some (.cells B 54))
  (J:[bz,bv,bs,br].Nodup) (h:w1.heap.size≤bz∧w1.heap.size≤bv∧w1.heap.size≤bs∧w1.heap.size≤br):SpC w1 v0 v1 v2 v3 n bz bv bs br [bz,bv,bs,br] (Eng.new n) false W:=by
 have K:q=((List.replicate n (0:Int)).map (Value.int .i64)).toArray:=Array.toList_inj.1 (by simp[D]);have V:br<W.heap.size:=(Array.getElem?_eq_some_iff.1 hr).1;obtain⟨A,O⟩:∃A:World,A.heap.size=br:=⟨{W with heap:=W.heap.extract 0 br},by simp;omega⟩;have hm:=bE.Jv (w0:=w1) (w:=A) 54 (by omega) n (fZ.mk w1.heap.size 3 []) (by rfl) (fun W=>fZ.GG _ _ W) I (by unfold maxLen;omega);rw[O] at hm
 have T:bE (α:=fZ w1.heap.size 3) w1 54 W (.slice (some ⟨br,0,none⟩) n n) (List.replicate n []) (List.replicate n (fZ.mk w1.heap.size 3 [])):=hm.same (fun b hb=>by simp at hb) (fun b hb=>by
  obtain rfl:=ownB hb;rw[hr];exact(gH O.symm).symm)
 refine⟨hg,hz,?_,?_,⟨List.replicate n [],?_,by simp,by simp,by simp⟩,J,?_,by simp[Eng.new],by simp[Eng.new],by simp[Eng.new],?_⟩
 ·unfold jZ az
  rw[hv,K];rfl
 ·unfold jZ az
  rw[hs,K];simp[Eng.new]
 ·simpa[Eng.new] using T
 ·intro b hb
  simp at hb;rcases hb with rfl|rfl|rfl|rfl
  ·exact h.1
  ·exact h.2.1
  ·exact h.2.2.1
  ·exact h.2.2.2
 ·intro x U
  simp[Eng.new] at U;rw[U.2]
  decide
theorem GA(g:af d)(t:List aT)(w:World)(hg:Rd.rd fg w [.slice ag0 g.1.length kg0,.slice ag1 g.2.length kg1] g)(ht:Rd.rd ft w [.slice at_ t.length kt] t)(hl:aP g≤1048576)(hgood:jI g)(D:fP g t=true):
  Calls Tryz.prog 69 #[.agg #[.slice ag0 g.1.length kg0,.slice ag1 g.2.length kg1],.agg #[.slice at_ t.length kt]] w (Ku w g t ag0 kg0 ag1 kg1 at_ kt):=by
 have aj:=(jv.1 D).1.2;have hn:=jX hgood D;obtain⟨L,hL⟩:=nm (bU g t);have HL:=Kz hL;rw[←hL] at hn;have HN:=Kz hn;obtain⟨i0,hi,I,J,K⟩:=info_parts Tryz.kJ;have q:=fun(W:World)=>run_make (P:=Tryz.prog) W 54 3 i0 (.int .i64 0) Tryz.underlying54 hi I .i64 .i64 L.length L.length (by omega) (by omega) (by rw[K];omega) (by omega)
 rw[J] at q;obtain⟨i1,gi,O,T,U⟩:=info_parts Tryz.FC;have B:=fun(W:World)=>run_make (P:=Tryz.prog) W 74 54 i1 (.slice none 0 0) Tryz.underlying74 gi O .i64 .i64 L.length L.length (by omega) (by omega) (by rw[U];omega) (by omega)
 rw[T] at B;clear hi I J K gi O T U;simp only[Int.toNat_natCast,Nat.mul_one] at q B;have V:(Value.int .i64 0).cells=#[.int .i64 0]:=rfl;have X:(Value.slice none 0 0).cells=#[.slice none 0 0]:=rfl;rw[V] at q;rw[X] at B;have Y:=Kz (show(madeCells #[.slice none 0 0] L.length).toList=List.replicate L.length (.slice none 0 0) by rw[toList_madeCells_one]);have Z:=Kz (show(madeCells #[.int .i64 0] L.length).toList=List.replicate L.length (.int .i64 0) by rw[toList_madeCells_one]);generalize madeCells #[.int .i64 0] L.length=C1 at q Z;generalize madeCells #[.slice none 0 0] L.length=C2 at B Y;clear V X hL hn;go_in;go_wp2_with fail;refine(yM g t _ (Rd.gr hg gd) (Rd.gr ht gd) hl (by omega)).mono ?_;rintro e w1 ⟨v,fq,rfl,hs,ae,g1⟩;rw[←HL.o] at hs;obtain⟨aL,kL,rfl,-,-,-⟩:=hs.open;have HS:=Kz hs;have ah:=Kz (Gr.trans gd g1:Gr w w1);have c2:w1.cell? ⟨w.heap.size,0,none⟩=some (.slice ag0 g.1.length kg0):=g1.keep (Gr.keep gd (aJ (A:=w) rfl rfl));have ak:w1.cell? ⟨w.heap.size,1,none⟩=some (.slice ag1 g.2.length kg1):=g1.keep (Gr.keep gd (aJ (A:=w) rfl rfl));have c3:w1.cell? ⟨w.heap.size+1,0,none⟩=some (.slice at_ t.length kt):=g1.keep (by have h:=aJ (A:=w.alloc (.cells #[.slice ag0 g.1.length kg0,.slice ag1 g.2.length kg1] 39)) (t:=43) (C:=#[.slice at_ t.length kt]) (j:=0) (n:=w.heap.size+1) (by simp) rfl;exact h);have z2:=blk c2;have z3:=blk c3;clear hs ae g1 hg ht hl;go_wp2_with fail
 go_cut [4] (fun s4 wr=>∃(bz bv bs br:Nat) (fp:List Nat),s4=.pointer (some ⟨bz,0,none⟩)∧SpC w1 (.slice ag0 g.1.length kg0) (.slice ag1 g.2.length kg1) (.slice at_ t.length kt) (.slice aL L.length kL) L.length bz bv bs br fp (Eng.new L.length) false wr)
 case first=>
  go_region
  all_goals
   go_wp2_with fail;go_meet;refine⟨_,_,_,_,_,rfl,Jc HN.o Z.o Y.o gd (by exact gH (by simp)) ?_ ?_ ?_ ?_ ?_⟩
   ·first|exact gH (by first|(simp;done)|(simp;omega)|omega)|exact(dU (by first|(simp;done)|(simp;omega)|omega)).trans (gH (by first|(simp;done)|(simp;omega)|omega))|exact(dU (by first|(simp;done)|(simp;omega)|omega)).trans ((dU (by first|(simp;done)|(simp;omega)|omega)).trans (gH (by first|(simp;done)|(simp;omega)|omega)))|exact(dU (by first|(simp;done)|(simp;omega)|omega)).trans ((dU (by first|(simp;done)|(simp;omega)|omega)).trans ((dU (by first|(simp;done)|(simp;omega)|omega)).trans (gH (by first|(simp;done)|(simp;omega)|omega))))
   ·first|exact gH (by first|(simp;done)|(simp;omega)|omega)|exact(dU (by first|(simp;done)|(simp;omega)|omega)).trans (gH (by first|(simp;done)|(simp;omega)|omega))|exact(dU (by first|(simp;done)|(simp;omega)|omega)).trans ((dU (by first|(simp;done)|(simp;omega)|omega)).trans (gH (by first|(simp;done)|(simp;omega)|omega)))|exact(dU (by first|(simp;done)|(simp;omega)|omega)).trans ((dU (by first|(simp;done)|(simp;omega)|omega)).trans ((dU (by first|(simp;done)|(simp;omega)|omega)).trans (gH (by first|(simp;done)|(simp;omega)|omega))))
   ·first|exact gH (by first|(simp;done)|(simp;omega)|omega)|exact(dU (by first|(simp;done)|(simp;omega)|omega)).trans (gH (by first|(simp;done)|(simp;omega)|omega))|exact(dU (by first|(simp;done)|(simp;omega)|omega)).trans ((dU (by first|(simp;done)|(simp;omega)|omega)).trans (gH (by first|(simp;done)|(simp;omega)|omega)))|exact(dU (by first|(simp;done)|(simp;omega)|omega)).trans ((dU (by first|(simp;done)|(simp;omega)|omega)).trans ((dU (by first|(simp;done)|(simp;omega)|omega)).trans (gH (by first|(simp;done)|(simp;omega)|omega))))
   ·simp;try omega
   ·simp;try omega
 case rest=>
  obtain⟨bz,bv,bs,br,fp,rfl,ai⟩:=hcut;go_wp2_with fail;go_ret;have hL:=HL.o;subst hL;exact⟨w1,aL,kL,bz,bv,bs,br,fp,rfl,ah.o,⟨fq,HS.o⟩,ai.grow gd⟩
noncomputable def sW(g:af d)(t:List aT)(xs:List av):Option Eng:=
 xs.foldl (fun o x=>o.bind fun s=>(yH g t (bU g t) (bU g t).length s (gL (bU g t) x) (-1)).map (·.2)) (some (Eng.new (bU g t).length))
theorem Fq{g:af d}{t:List aT}{xs:List av}{i:Nat}(h:i<xs.length):sW g t (xs.take (i+1))=((sW g t (xs.take i)).bind fun s=>yH g t (bU g t) (bU g t).length s (gL (bU g t) xs[i]) (-1)).map (·.2):=by
 unfold sW;rw[List.take_succ_eq_append_getElem h,List.foldl_append,Option.map_bind];rfl
def Kt(w:World)(g:af d)(t:List aT)(ag0:Option Addr)(kg0:Nat)(ag1:Option Addr)(kg1:Nat)(at_:Option Addr)(kt:Nat)(o:Option Eng)(e:Ending)(w':World):Prop:=
 ∃(w1:World) (aL:Option Addr) (kL bz bv bs br:Nat) (fp:List Nat),e=.returned (.pointer (some ⟨bz,0,none⟩))∧Gr w w1∧(∃fl,SlR fl w1 (.slice aL (bU g t).length kL) (bU g t))∧
  SpS w1 (.slice ag0 g.1.length kg0) (.slice ag1 g.2.length kg1) (.slice at_ t.length kt) (.slice aL (bU g t).length kL) (bU g t).length bz bv bs br (bU g t).length fp o w'
theorem GN{fx:List Nat}(g:af d)(t:List aT)(xs:List av){ax:Option Addr}{kx:Nat}(w:World)(hg:Rd.rd fg w [.slice ag0 g.1.length kg0,.slice ag1 g.2.length kg1] g)(ht:Rd.rd ft w [.slice at_ t.length kt] t)(hx:SlR fx w (.slice ax xs.length kx) xs)(oH:xs.length≤1048576)(hl:aP g≤1048576)(B:gY t≤1048576)(hgood:jI g)(Z:fP g t=true):
  Calls Tryz.prog 37 #[.agg #[.slice ag0 g.1.length kg0,.slice ag1 g.2.length kg1],.agg #[.slice at_ t.length kt],.slice ax xs.length kx] w (Kt w g t ag0 kg0 ag1 kg1 at_ kt (sW g t xs)):=by
 have HG:=Kz hg;have HT:=Kz ht;have HX:=Kz hx;have J:=Kz hgood;have ay:=Kz Z;have cO:=Kz B;have aZ:=Kz hl;have dB:=jX hgood Z;obtain⟨L,hL⟩:=nm (bU g t);have HL:=Kz hL;rw[←hL] at dB;clear hg ht hx hgood Z B hl hL;go_in;go_wp2_with fail;refine(GA g t _ (Rd.gr HG.o gd) (Rd.gr HT.o gd) aZ.o J.o ay.o).mono ?_;rintro e w2 ⟨w1,aL,kL,bz,bv,bs,br,fp,rfl,bg,⟨fl,O⟩,ae⟩;have D:=Kz (Gr.trans gd bg:Gr w w1);rw[←HL.o] at O ae;have HE:=Kz (show EnvD w1 g t L ag0 kg0 ag1 kg1 at_ kt aL kL from⟨⟨fg,Rd.gr HG.o D.o⟩,⟨ft,Rd.gr HT.o D.o⟩,⟨fl,O⟩,J.o,ay.o,HL.o,aZ.o,cO.o⟩);have cK:=Kz (En (bz:=bz) (bv:=bv) (bs:=bs) (br:=br) HE.o L.length)
 have dS:=Kz (show SpS w1 (.slice ag0 g.1.length kg0) (.slice ag1 g.2.length kg1) (.slice at_ t.length kt) (.slice aL L.length kL) L.length bz bv bs br L.length fp (sW g t []) w2 from by
  rw[show sW g t []=some (Eng.new L.length) by rw[HL.o];rfl];exact⟨ae,EE _⟩)
 have dV:=Kz (show∃fl,SlR fl w1 (.slice aL L.length kL) L from⟨fl,O⟩);clear bg O ae;go_wp2_with fail
 go_loopw [8] (fun s8 wr=>∃(i:Nat) (fp:List Nat),i≤xs.length∧Ky (SpS w1 (.slice ag0 g.1.length kg0) (.slice ag1 g.2.length kg1) (.slice at_ t.length kt) (.slice aL L.length kL) L.length bz bv bs br L.length fp (sW g t (xs.take i)) wr)∧s8=.int .i64 i) (fun s8 _=>xs.length - (intOf s8).toNat)
 case atStart=>exact⟨0,fp,by omega,dS,rfl⟩
 case round=>
  obtain⟨i,f3,hi,T,rfl⟩:=hrel
  rename World=>q
  by_cases B:i<xs.length
  ·obtain⟨s3,lq,I,-⟩:=T.o.core
   obtain⟨a9,k9,ah,fe,fu,bq⟩:=HX.o.open;injection ah with ah _ gB;subst ah;subst gB;obtain⟨bX,oX,rfl,oL⟩:=bq i B;obtain⟨i0,i1,ai,aj⟩:=SlR.iX (show SlR fx w (.slice (some ⟨bX,oX,none⟩) xs.length kx) xs from HX.o) B;obtain⟨X,bB⟩:=nm (xs[i]);have U:=Kz (Fq (g:=g) (t:=t) B);rw[←bB] at i0 i1 ai aj U;obtain⟨x0,x1⟩:=X;have ak:Gr w q:=D.o.trans I.gr;have gD:=Kz (fun W=>bZ (w:=W) x0 x1 ai aj);have j0:=ak.keep i0;have j1:=ak.keep i1;simp only at j0 j1;obtain⟨y0,y1,y2,y3,y8⟩:=I.fixed;have gF:=Kz I
   have bH:bX∉f3:=fun hm=>by
    have h1:=I.ge bX hm;have h3:=D.o.size;omega
   have n0:(0:Int)≤(i:Int):=by omega
   have n1:(i:Int)<(xs.length:Int):=by omega
   have o5:=zI1 i (by omega);have gT:=fun(w':World) (h:Wr f3 q w')=>(⟨h.aO j0 bH,h.aO j1 bH⟩:_∧_)
   rw[←HL.o] at U;obtain⟨KX,V⟩:=nm (gL L (x0,x1));have gV:=Kz V;have gX:=Kz (show KX<L.length by rw[V];exact(kS _ _).1);rw[←V] at U;clear I fe fu bq i0 i1 ai aj bB ak V y0 y1 y8;go_wp2_with fail;refine wp_region_held_drew (S:=fun w'=>Wr f3 q w'∧w'.cell? ⟨bz,3,none⟩=some (.slice aL L.length kL)) (by kernel_rfl) ⟨(gd:Gr q q.drew).eF _,(gd:Gr q q.drew).keep y3⟩ (fun au=>?_);refine aK 0 18 ?_;refine aK 1 19 ?_;refine aK 2 20 ?_;refine aK 3 21 ?_;refine aK 4 22 ?_;refine aK 5 23 ?_;refine aK 6 24 ?_;refine aK 7 25 ?_;refine aK 8 26 ?_;refine gy [9] ?_;refine AllReadyH.cons rfl (fun K hK=>?_) AllReadyH.nil;go_simp
   go_at_call 38
   obtain⟨fl,hl⟩:=HE.o.hL;refine(nC L (x0,x1) _ (hl.gr (gF.o.gr.trans gd)) (gD.o _)).mono ?_;rw[←gV.o];rintro e w' ⟨rfl,x2,rfl⟩;refine hK.out _ _ ⟨(gd:Gr q (q.drew.ext x2)).eF _,(gd:Gr q (q.drew.ext x2)).keep y3⟩ (fun ik=>?_);clear hK K
   try simp only[Act.put,uq1,uq2,uq3]
   refine gy [10] ?_
   refine AllReadyH.cons rfl (fun K hK=>?_) AllReadyH.nil
   go_simp
   go_at_call 70
   refine(cK.o f3 (sW g t (xs.take i)) _ KX (-1) (T.o.grow gd) gX.o (.inl (by decide))).mono ?_;rintro e w4 ⟨v4,f4,rfl,iw,Y,kr,bL⟩;rw[←U.o] at Y;have ku:=Kz Y;obtain⟨s4,c4,bR,-⟩:=Y.core;have e3:=bR.fixed.2.2.2.1;have cB:Wr f3 q w4:=((gd:Gr q (q.drew.ext x2)).eF _).trans bL.wr;clear iw Y kr bL bR;refine hK.out _ _ ⟨cB,e3⟩ (fun ky=>?_);clear hK K
   try simp only[Act.put,uq1,uq2,uq3]
   refine wpAnyH_done (by kernel_rfl) ?_ _
   clear gT e3 cB ik ky au;go_simp;go_wp2_with fail;exact⟨⟨i+1,f4,by omega,Kz (ku.o.grow gd),by go_num⟩,by simp[intOf];omega⟩
  ·obtain rfl:i=xs.length:=by omega
   rw[List.take_length] at T;go_wp2_with fail;go_ret;have hL:=HL.o;subst hL;exact⟨w1,aL,kL,bz,bv,bs,br,f3,rfl,D.o,dV.o,T.o.grow gd⟩
noncomputable def kT(g:af d)(t:List aT):Bool:=pB (jI g)&&fP g t
theorem uW(g:af d)(t:List aT)(w:World)(hg:Rd.rd fg w [.slice ag0 g.1.length kg0,.slice ag1 g.2.length kg1] g)(ht:Rd.rd ft w [.slice at_ t.length kt] t)(O:aP g≤1048576)(D:t.length≤1048576):
  Qz 36 #[.agg #[.slice ag0 g.1.length kg0,.slice ag1 g.2.length kg1],.agg #[.slice at_ t.length kt]] w (.bool (kT g t)):=by
 have I:=Kz hg;have T:=Kz ht;have B:=Kz O;have U:=Kz D;have q:=Kz (fun x:Ext=>Ao g (((w.alloc (.cells #[.slice ag0 g.1.length kg0,.slice ag1 g.2.length kg1] 39)).alloc (.cells #[.slice at_ t.length kt] 43)).ext x) (Rd.gr I.o gd) B.o);have V:=Kz (fun x:Ext=>iC g t 0 (((w.alloc (.cells #[.slice ag0 g.1.length kg0,.slice ag1 g.2.length kg1] 39)).alloc (.cells #[.slice at_ t.length kt] 43)).ext x) (Rd.gr I.o gd) (Rd.gr T.o gd) B.o);have X:=Kz (fun x:Ext=>(lS g t (zB g t 0) (((w.alloc (.cells #[.slice ag0 g.1.length kg0,.slice ag1 g.2.length kg1] 39)).alloc (.cells #[.slice at_ t.length kt] 43)).ext x) (Rd.gr I.o gd) (Rd.gr T.o gd) B.o U.o));clear hg ht O D
 by_cases h:jI g
 ·have J:=Kz (show kT g t=kY g t (zB g t 0) by unfold kT;rw[bQ h];rfl)
  have K:=Kz (bQ h);rw[K.o] at q;clear h;delta Qz;go_in;go_wp2_with fail;refine wg ?_
  iterate 11 (go_big_quiet_step (first|(go_at_call 66;exact aG (q.o _))|(go_at_call 68;exact aG (V.o _))|(go_at_call 67;exact aG (X.o _))))
  refine wq fun Y=>?_
  go_wp2_with fail;go_ret;exact⟨by rw[J.o];rfl,gd⟩
 ·have J:=Kz (show kT g t=false by unfold kT;rw[bV h];rfl)
  have K:=Kz (bV h);rw[K.o] at q;clear h;delta Qz;go_in;go_wp2_with fail;refine wg ?_
  iterate 11 (go_big_quiet_step (first|(go_at_call 66;exact aG (q.o _))))
  refine wq fun Y=>?_
  go_wp2_with fail;go_ret;exact⟨by rw[J.o];rfl,gd⟩
noncomputable def readsOf(g:af d)(t:List aT)(x:av):List av:=
 if kT g t=true then match sW g t [x] with
  |none=>[]
  |some s=>if gL (bU g t) x<0 then[] else(s.reads.getD (gL (bU g t) x).toNat []).map fun j=>(bU g t).getD j iN
 else[]
theorem IC{b c o:Nat}{t:TypeId}{v:Value}(h:az W b t [])(hc:W.cell? ⟨c,o,none⟩=some v):c≠b:=by
 rintro rfl;rw[cell_of_row W c o _ t (0,0) h] at hc;simp at hc
theorem SpC.Et{w0:World}{v0 v1 v2 v3:Value}{bz bv bs br:Nat}{fp:List Nat}{s:Eng}{cyc:Bool}(h:SpC w0 v0 v1 v2 v3 n bz bv bs br fp s cyc W)(K:∀j,(s.reads.getD j []).length≤2000)(hn:n≤64){k:Nat}(hk:k<n):
  ∃q B,W.cell? ⟨br,k,none⟩=some (.slice q (s.reads.getD k []).length B)∧∃fq,SlR fq W (.slice q (s.reads.getD k []).length B) ((s.reads.getD k []).map Int.ofNat):=by
 obtain⟨fps,h1,-,-,-⟩:=h.hr
 obtain⟨X,O,-,-⟩:=h1.read (fun x T=>by
  obtain⟨l,I,rfl⟩:=List.mem_map.1 T;obtain⟨j,U,rfl⟩:=List.getElem_of_mem I;have:=K j;rw[getD_at U] at this
  show((s.reads[j]).map Int.ofNat).length≤bn
  rw[length_map];unfold bn;omega)
 have Y:=h.rl;obtain⟨fr,V,-⟩:=O.slR (by simp;unfold bn;omega);obtain⟨v,fq,hv,D,-⟩:=V.J2 (i:=k) (by simp;omega);have J:k<s.reads.length:=by omega
 have e:((s.reads.map fun l=>fZ.mk w0.heap.size 3 (l.map Int.ofNat)).map fZ.o)[k]'(by simp;omega)=(s.reads.getD k []).map Int.ofNat:=by
  rw[getD_at J];simp;rfl
 rw[e] at D;obtain⟨q,B,rfl,-,-,-⟩:=D.open;rw[length_map] at hv D;exact⟨q,B,by simpa using hv,fq,D⟩
theorem D6(g:af d)(t:List aT)(x:av)(w:World)(hg:Rd.rd fg w [.slice ag0 g.1.length kg0,.slice ag1 g.2.length kg1] g)(ht:Rd.rd ft w [.slice at_ t.length kt] t)(q9:(Lit.int .i64 x.1).wf=true)(sO:x.2.size≤maxLen)(hl:aP g≤1048576)(uf:t.length≤1048576)(V:gY t≤1048576):
  Calls Tryz.prog 10 #[.agg #[.slice ag0 g.1.length kg0,.slice ag1 g.2.length kg1],.agg #[.slice at_ t.length kt],.agg #[.int .i64 x.1,.string x.2]] w (p8 w (readsOf g t x)):=by
 have HG:=Kz hg;have HT:=Kz ht;have gD:=Kz hl;have uo:=Kz uf;have yu:=Kz V;have HX:=Kz (And.intro q9 sO);obtain⟨q,D⟩:=x;clear hg ht hl uf V q9 sO;obtain⟨i0,hi⟩:=info_parts Tryz.o6;have HZ:=Kz hi;clear hi
 by_cases I:kT g t=true
 ·have gF:=Kz I
  have bH:=Kz (show jI g from dx.1 (by unfold kT at I;simp at I;exact I.1));have uq:=Kz (show fP g t=true by unfold kT at I;simp at I;exact I.2);have O:=Kz (show readsOf g t (q,D)=(match sW g t [(q,D)] with|none=>[]|some s=>if gL (bU g t) (q,D)<0 then[] else(s.reads.getD (gL (bU g t) (q,D)).toNat []).map fun j=>(bU g t).getD j iN) by unfold readsOf;rw[if_pos I]);clear I;go_in;go_wp2_with fail;refine(uW g t _ (Rd.gr HG.o gd) (Rd.gr HT.o gd) gD.o uo.o).mono ?_;rw[gF.o];rintro e B ⟨rfl,U⟩;have ai:=Kz (Gr.trans gd U:Gr w B);obtain⟨Y,ax⟩:=nm (((w.alloc (.cells #[.slice ag0 g.1.length kg0,.slice ag1 g.2.length kg1] 39)).alloc (.cells #[.slice at_ t.length kt] 43)).alloc (.cells #[.int .i64 q,.string D] 45));have VG:=Kz (az.gr (az.new rfl:az (w.alloc (.cells #[.slice ag0 g.1.length kg0,.slice ag1 g.2.length kg1] 39)) w.heap.size 39 [.slice ag0 g.1.length kg0,.slice ag1 g.2.length kg1]) (Gr.trans gd U:Gr _ B));have VT:=Kz (az.gr (az.new (by simp):az ((w.alloc (.cells #[.slice ag0 g.1.length kg0,.slice ag1 g.2.length kg1] 39)).alloc (.cells #[.slice at_ t.length kt] 43)) (w.heap.size+1) 43 [.slice at_ t.length kt]) (Gr.trans gd U:Gr _ B));have VX:=Kz (az.gr (az.new (by simp):az (((w.alloc (.cells #[.slice ag0 g.1.length kg0,.slice ag1 g.2.length kg1] 39)).alloc (.cells #[.slice at_ t.length kt] 43)).alloc (.cells #[.int .i64 q,.string D] 45)) (w.heap.size+1+1) 45 [.int .i64 q,.string D]) (Gr.trans gd U:Gr _ B));rw[←ax] at U;have V3:=Kz (az.gr (az.new (by rw[ax];simp):az (Y.alloc (.cells #[] 45)) (w.heap.size+1+1+1) 45 []) U);have uz:Y.heap.size=w.heap.size+1+1+1:=by rw[ax];simp
  have ve:=Kz (show Gr w Y by rw[ax];exact gd);have y5:=Kz ((bE.kF (α:=av) (w0:=Y) (w:=Y) 45 (le_refl _) uz.symm).gr U);have y7:w.heap.size+1+1+1<B.heap.size:=by have:=U.size;simp at this;omega
  have y9:=Kz (Gr.trans gd U:Gr Y B);obtain⟨d0,d1⟩:=VG.o.c2;have d2:B.cell? ⟨w.heap.size+1,0,none⟩=some (.slice at_ t.length kt):=VT.o.c 0;obtain⟨d3,d4⟩:=VX.o.c2;have zd:=blk d0;have za:=blk d2;have zb:=blk d3;clear ax U uz y7;go_wp2_with fail;obtain⟨fo,ho,-⟩:=(bE.FB (α:=av) (w0:=B) (w:=B) 45 (le_refl _) (g:=B.heap.size) rfl (cs:=#[.int .i64 q,.string D]) (bZ q D HX.o.1 HX.o.2)).slR (by unfold bn;simp);refine(GN g t [(q,D)] _ (Rd.gr HG.o (tg ai)) (Rd.gr HT.o (tg ai)) ho (by simp) gD.o yu.o bH.o uq.o).mono ?_;rintro e W2 ⟨w1,aL,kL,bz,bv,bs,br,fp,rfl,g1,⟨fl,gT⟩,gV⟩;have ze:=Kz (Gr.trans gd g1:Gr B w1);obtain⟨L,hL⟩:=nm (bU g t);have vB:=jX bH.o uq.o;rw[←hL] at gT gV vB O;have gX:=Kz gT;obtain⟨s,cyc,hc,bX⟩:=gV.core;have HC:=Kz hc;have qb:=Kz bX;have ik:=Kz (ze.o.trans hc.gr);obtain⟨y0,y1,y2,y3,y8⟩:=hc.fixed;have zy:=blk y0;have zg:=Kz (fun W=>bZ (w:=W) q D HX.o.1 HX.o.2);obtain⟨KX,cB⟩:=nm (gL L (q,D));rw[←cB] at O;have zn:=Kz (show KX<L.length∧-1≤KX by rw[cB];have:=kS L (q,D);omega);have f3:=ik.o.keep d3;have f4:=ik.o.keep d4;have zf:=blk f3;have vD:=Kz (fun x:Ext=>nC L (q,D) (W2.ext x) (gX.o.gr (HC.o.gr.trans gd)) (zg.o _));rw[←cB] at vD;clear d0 d1 d2 d3 d4 zd za zb ho g1 gT gV hc bX cB hL;go_wp2_with fail;refine wg ?_
  iterate 7 (go_big_quiet_step (first|(go_at_call 38;exact aG (vD.o _))))
  refine wq fun x2=>?_
  obtain⟨W5,iw⟩:=nm (W2.ext x2);have g5:Gr W2 W5:=by rw[iw];exact gd
  rw[←iw];have cK:=Kz (HC.o.grow g5);have ay:=Kz (ik.o.trans g5);have q3:=g5.keep y3;have q8:=g5.keep y8;have zq:=blk q3;clear iw g5 y0 y1 y2 y3 y8 zy f3 f4 zf;rcases qb.o with⟨Z,rfl,vF⟩|⟨Z,rfl⟩
  ·rw[Z] at O
   have kr:=Kz vF;clear Z vF
   by_cases bB:KX<0
   ·have aj:=Kz (show readsOf g t (q,D)=[] by rw[O.o];exact if_pos bB)
    go_wp2_with fail;go_ret;rw[aj.o];exact⟨_,[],rfl,⟨_,0,rfl,by simp,by simp,.inl ⟨rfl,rfl⟩⟩,aY.nil _,ai.o.trans (tg ay)⟩
   ·obtain⟨k,rfl⟩:∃k:Nat,KX=k:=⟨KX.toNat,by omega⟩
    have aj:=Kz (show readsOf g t (q,D)=(s.reads.getD k []).map (fun j=>L.getD j iN) by rw[O.o];exact(if_neg bB).trans (by rw[Int.toNat_natCast]));have vG:=Kz (show k<L.length by have:=zn.o.1;omega);obtain⟨J,au⟩:=nm (s.reads.getD k []);obtain⟨ak,ck,q7,IV,hrow⟩:=cK.o.Et (k:=k) kr.o.len vB vG.o;have yc:=Kz (show∀m∈J,m<L.length by rw[au];exact kr.o.mem k);have vL:J.length≤2000:=by rw[au];exact kr.o.len k
    have vO:=Kz vL;rw[←au] at q7 hrow aj;have ku:=Kz hrow;have q6:W5.cell? ⟨bz,6,none⟩=some (.slice (some ⟨br,0,none⟩) L.length L.length):=cK.o.hz.c 6;have V5:=Kz (V3.o.gr ay.o);have zo:=Kz (y5.o.gr ay.o);have zu:=Kz (y9.o.trans ay.o);have k0:(0:Int)≤(k:Int):=by omega
    have k1:(k:Int)<(L.length:Int):=by have:=vG.o;omega
    obtain⟨O0,ky⟩:=nm ((some (w.heap.size+1+1+1):Option Nat));have zx:=Kz ky
    have ae:=Kz (show∀c o v,W5.cell? ⟨c,o,none⟩=some v→c∉O0.toList from fun c o v hc hm=>by
     rw[ky] at hm;simp at hm;exact IC V5.o hc hm)
    have Q3:=Kz q3;have Q6:=Kz q6;have Q7:=Kz q7;clear bB au vL hrow q3 q6 q7 ky;go_wp2_with fail;clear q8 zq
    go_loopw [10,7] (fun lq s7 wr=>∃(i:Nat) (fps:List (List Nat)),i≤J.length∧Ky (fps.flatten=[])∧Gr Y wr∧Wr O0.toList W5 wr∧Ky (s7.ownBlock=O0∨∃n,s7.ownBlock=some n∧W5.heap.size≤n)∧bE (α:=av) Y 45 wr s7 fps ((J.take i).map fun j=>L.getD j iN)∧lq=.int .i64 i) (fun lq _ _=>J.length - (intOf lq).toNat)
    case atStart=>exact⟨0,[],by omega,Kz rfl,zu.o,Wr.refl _ _,Kz (.inl zx.o.symm),zo.o,rfl⟩
    case round=>
     obtain⟨i,fps,hi,HF,hg,aZ,HV,hown,rfl⟩:=hrel
     rename World=>W7
     have bg:=Kz hg;have bq:=Kz aZ;have HO:=Kz hown;obtain⟨ra,rc,cO⟩:=hown.form;obtain⟨M,hM⟩:=nm ((J.take i).map (fun j=>L.getD j iN));have K3:M.length≤2000:=by rw[hM,length_map,List.length_take];have:=vO.o;omega
     rw[←hM] at cO;have HM:=Kz hM;have e3:=aZ.aO Q3.o (ae.o _ _ _ Q3.o);have e6:=aZ.aO Q6.o (ae.o _ _ _ Q6.o);have e7:=aZ.aO Q7.o (ae.o _ _ _ Q7.o);have K4:=blk e3;have K6:=blk e7;clear hg aZ hown hM;subst cO
     by_cases V:i<J.length
     ·obtain⟨m,hm⟩:=nm (J[i])
      have dB:m<L.length:=yc.o m (by rw[hm];exact List.getElem_mem V);obtain⟨a9,k9,oH,-,-,vR⟩:=ku.o.open;injection oH with oH zH zL;clear zH;subst oH;subst zL;obtain⟨bR,oR,rfl,-⟩:=vR i (by simpa using V);have hcell:=(ku.o.fQ (i:=i) (by simpa using V)).1;have T:W5.cell? ⟨bR,oR+i,none⟩=some (.int .i64 (m:Int)):=by rw[hm];simpa using hcell
      have e8:=bq.o.aO T (ae.o _ _ _ T);obtain⟨a8,k8,o5,-,-,vX⟩:=gX.o.open;injection o5 with o5 zO z8;clear zO;subst o5;subst z8;obtain⟨bL,oL,rfl,-⟩:=vX m dB;obtain⟨l0,l1,dS,dV⟩:=SlR.iX (show SlR fl w1 (.slice (some ⟨bL,oL,none⟩) L.length kL) L from gX.o) dB;obtain⟨X,o9⟩:=nm (L[m]);have A7:=Kz (show L.getD m iN=X by rw[o9];exact getD_at dB);rw[←o9] at l0 l1 dS dV;obtain⟨u0,u1⟩:=X;simp only at l0 l1 dS dV;have BM:=Kz hm;have wF:=Kz (And.intro dS dV);have fe:=cK.o.gr.keep l0;have fu:=cK.o.gr.keep l1;have l2:=bq.o.aO fe (ae.o _ _ _ fe);have l3:=bq.o.aO fu (ae.o _ _ _ fu);have zl:=blk l2;have La:=blk e8
      have ah:∀c o v,W5.cell? ⟨c,o,none⟩=some v→c∉(Value.slice ra M.length rc).ownBlock.toList:=fun c o v hc hm=>by
       rcases HV.o with e|⟨n,e,Li⟩
       ·rw[e] at hm;exact ae.o c o v hc hm
       ·rw[e] at hm
        simp at hm;have:=blk hc;omega
      have m0:(0:Int)≤(m:Int):=by omega
      have m1:(m:Int)<(L.length:Int):=by omega
      have Lj:(0:Int)≤(i:Int):=by omega
      have Lm:(i:Int)<(J.length:Int):=by omega
      have Ls:IntKind.i64.wrap ((i:Int)+1)=(i:Int)+1:=IntWalk.i64_in _ (by have:=vO.o;omega);have EB:=Kz (ah _ _ _ Q3.o);have E5:=Kz (ah _ _ _ Q6.o);have FX:=Kz (ah _ _ _ Q7.o);have F4:=Kz (ah _ _ _ T);have F5:=Kz (ah _ _ _ fe);have F6:=Kz (ah _ _ _ fu);clear hm vR vX hcell T l0 l1 dS dV fe fu o9 ah dB;go_wp2_with fail;have Lv:=fun(w':World) (h:Wr (Value.slice ra M.length rc).ownBlock.toList W7 w')=>(⟨h.aO e3 EB.o,h.aO e6 E5.o,h.aO e7 FX.o,h.aO e8 F4.o,h.aO l2 F5.o,h.aO l3 F6.o⟩:_∧_∧_∧_∧_∧_)
      refine eB (fun w'=>Wr (Value.slice ra M.length rc).ownBlock.toList W7 w'∧Gr Y w') 19 (by kernel_rfl) (⟨(Gr.drew (Gr.refl W7)).eF _,bg.o.drew⟩) (fun hU=>?_)
      refine aN 0 ?_
      refine aN 1 ?_
      refine aN 5 ?_
      refine aN 9 ?_
      refine aN 12 ?_
      refine aN 2 ?_
      refine aN 6 ?_
      refine aN 3 ?_
      refine aN 7 ?_
      refine aN 4 ?_
      refine aN 8 ?_
      refine aN 10 ?_
      refine aN 11 ?_
      refine aN 13 ?_
      refine aN 14 ?_
      refine aN 15 ?_
      refine aN 16 ?_
      refine dw [17] ?_
      refine(bf.cons rfl (fun K hK=>?_) bf.nil);go_simp;refine hK.out _ _ ⟨(gd:Gr W7 ((W7.alloc (.cells #[.int .i64 u0,.string u1] 45)).drew)).eF _,bg.o.trans gd⟩ (fun Lx=>?_);clear hK K
      try simp only[Act.put,uq1,uq2,uq3]
      refine dw [18] ?_
      refine(bf.cons rfl (fun K hK=>?_) bf.nil);refine gU (α:=av) (wg:=Y) (w0:=Y) (tg bg) (le_refl _) (tg bg).size (by rfl) _ _ _ (by rfl) 45 i0 _ _ Tryz.underlying34 HZ.o.1 HZ.o.2.1 HZ.o.2.2.1 HZ.o.2.2.2 rfl (.slice ra M.length rc) fps _ (by rfl) (HO.o.gr gd) _ [[]] [(u0,u1)] (by rfl) ((eT.one (w:=W7) (g:=W7.heap.size) rfl (bZ u0 u1 wF.o.1 wF.o.2)).gr gd) (fun b _=>by simp) (by rw[←HM.o];unfold maxLen;simp;omega) (by rw[←HM.o];simp;omega) ?_;intro v9 w9 k1 k2 k3 k4
      replace k1:=Kz k1;have F8:Wr (Value.slice ra M.length rc).ownBlock.toList W7 w9:=((gd:Gr W7 ((W7.alloc (.cells #[.int .i64 u0,.string u1] 45)).drew)).eF _).trans k2;replace k2:=Kz k2;replace k3:=Kz k3;replace k4:=Kz k4;refine hK.out _ _ ⟨F8,k4.o⟩ (fun LA=>?_);clear hK K
      try simp only[Act.put,uq1,uq2,uq3]
      refine dw [19] ?_
      refine bf.last rfl (fun K hK=>?_)
      go_simp;refine hK.out _ _ ?_;clear hK K
      try simp only[Act.put,uq1,uq2,uq3]
      refine fF (by kernel_rfl) ?_ _
      go_wp2_with fail;have wL:Wr (Value.slice ra M.length rc).ownBlock.toList _ w9:=k2.o;have xc:v9.ownBlock=(Value.slice ra M.length rc).ownBlock∨_:=k3.o;have Ha:=Kz wL;have He:=Kz xc;clear wL xc;refine⟨⟨i+1,fps++[[]],by omega,Kz (by rw[List.flatten_append,HF.o];rfl),k4.o,bq.o.more HV.o (((gd:Gr W7 _).eF _).trans Ha.o),Kz (tq HV.o He.o (Nat.le_trans bq.o.size (by simp<;>omega))),?_,by go_num⟩,by simp[intOf];omega⟩
      have e:(J.take (i+1)).map (fun j=>L.getD j iN)=M++[(u0,u1)]:=by
       rw[List.take_succ_eq_append_getElem V,List.map_append,←HM.o,List.map_cons,List.map_nil,←BM.o,A7.o]
      have h1:=k1.o;rw[←HM.o] at h1;rw[e];exact h1
     ·obtain rfl:i=J.length:=by omega
      have x9:=HO.o.fresh (by rw[←HM.o];unfold bn;omega) (by rw[HF.o];exact aY.nil _);rw[←HM.o] at x9;obtain⟨fq,hs,hf⟩:=x9;have HS:=Kz hs;have HY:=Kz (hf.of_le ve.o.size);have H5:=Kz (show readsOf g t (q,D)=M by rw[aj.o,HM.o,List.take_length]);clear hs hf;go_wp2_with fail;go_ret;exact⟨_,fq,rfl,by rw[H5.o];exact HS.o.gr gd,HY.o,ve.o.trans (tg bg)⟩
  ·rw[Z] at O
   have aj:=Kz (show readsOf g t (q,D)=[] from O.o);clear Z;go_wp2_with fail;go_ret;rw[aj.o];exact⟨_,[],rfl,⟨_,0,rfl,by simp,by simp,.inl ⟨rfl,rfl⟩⟩,aY.nil _,ai.o.trans (tg ay)⟩
 ·have HR:=Kz (show readsOf g t (q,D)=[] by unfold readsOf;rw[if_neg I])
  have gF:=Kz (show kT g t=false from eq_false_of_ne_true I);clear I;go_in;go_wp2_with fail;refine(uW g t _ (Rd.gr HG.o gd) (Rd.gr HT.o gd) gD.o uo.o).mono ?_;rw[gF.o];rintro e B ⟨rfl,U⟩;have ai:=Kz (Gr.trans gd U:Gr w B);go_wp2_with fail;go_ret;rw[HR.o];exact⟨_,[],rfl,⟨_,0,rfl,by simp,by simp,.inl ⟨rfl,rfl⟩⟩,aY.nil _,ai.o.trans gd⟩
end Go.Proofs.YtleafadpfeibfaaGreat
