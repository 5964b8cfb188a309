/- Contracts and laws towards ReadsOf, part 46 of 54. No condition. -/
import Derived.Test.YtleafadpfeibfaaGreatRx38
import Derived.Test.YtleafadpfeibfaaGreatRx43
set_option maxHeartbeats 32000000
set_option maxRecDepth 10000
set_option linter.unusedVariables false
set_option linter.unusedSimpArgs false
namespace Go.Proofs.YtleafadpfeibfaaGreat
open Go.RowKit
variable{d:Nat}
section
variable{w0:World}{g:af d}{t:List aT}{L:List av}{ag0:Option Addr}{kg0:Nat}{ag1:Option Addr}{kg1:Nat}{at_:Option Addr}{kt:Nat}{aL:Option Addr}{kL:Nat}{bz bv bs br f:Nat}
theorem Dh{G:Eng→Int→Int→Res}(D:KpG L G)(I:ED g t){x:av}{sym:ByteArray}{i k j:Nat}{s:Eng}(h:s.on L.length k)(hr:s.reads.getD k []=[])(hi:i<16){cs:List (aD d)}(O:nT g t i=cs)(Z:j<cs.length){r T:Res}
  (h1:r=(List.range i).foldl (jQ g t L G x sym k) (some (0,s))) (J:T=(cs.take j).foldl (gp g t L G x sym i k) r):∀p,T=some p→p.2.on L.length k∧(p.2.reads.getD k []).length≤1488:=by
 intro p K
 have hc:=I i;rw[O] at hc
 cases r with
 |none=>rw[qX] at J;rw[J] at K;cases K
 |some q=>
  have B:=uh D I (List.range i) 0 s q h h1.symm;have U:=xR D (cs.take j) (fun c V=>hc.2 c (List.mem_of_mem_take V)) q.1 q.2 p (B.on h) (J.symm.trans K);refine⟨U.on (B.on h),?_⟩;have X:=B.room h.1;have Y:=U.room (B.still h.1);simp only[Int.toNat_natCast,hr,List.length_nil,List.length_range,List.length_take] at X Y;have:=hc.1;omega
theorem wI{R1:Res}{u:Int}:(R1.bind fun q=>some (u,q.2)).map (·.2)=R1.map (·.2):=by cases R1<;>rfl
theorem Ck{R1:Res}{u:Int}:∀p,(R1.bind fun q=>some (u,q.2))=some p→p.1=u:=by
 intro p h
 cases R1 with
 |none=>cases h
 |some q=>obtain rfl:=Option.some.inj h;rfl
theorem Cy{o:Option Eng}{F:Eng→Res}{u:Int}:(o.bind fun s=>(F s).bind fun r=>some (bits .or .i64 u r.1,r.2)).map (·.2)=(o.bind F).map (·.2):=by
 cases o with
 |none=>rfl
 |some s=>
  show((F s).bind fun r=>some (bits .or .i64 u r.1,r.2)).map (·.2)=(F s).map (·.2)
  cases F s<;>rfl
theorem or_val{o:Option Eng}{F:Eng→Res}{u v:Int}(h:∀p,o.bind F=some p→p.1=v):∀p,(o.bind fun s=>(F s).bind fun r=>some (bits .or .i64 u r.1,r.2))=some p→p.1=bits .or .i64 u v:=by
 intro p B
 cases o with
 |none=>cases B
 |some s=>
  obtain⟨q,D,e⟩:=Option.bind_eq_some_iff.1 (show((F s).bind fun r=>some (bits .or .i64 u r.1,r.2))=some p from B);obtain rfl:=Option.some.inj e;rw[←h q D]
theorem IP(E:EnvD w0 g t L ag0 kg0 ag1 kg1 at_ kt aL kL){G:Eng→Int→Int→Res}(y9:KpG L G)(za:ED g t)
  (ze:∀node k m,node<t.length→(∃h:node<t.length,t[node].2.2.2.2.2.length=m)→k<L.length→EvS w0 g t L ag0 kg0 ag1 kg1 at_ kt aL kL bz bv bs br f G node k m (d+1))
  (gF:∀node (h:node<t.length),∀c∈nT g t node,jh (fun{d} y=>NdP t[node].2.2.2.2.2.length y) (d+1) c.2.2.1∧jh (fun{d} y=>NdP t[node].2.2.2.2.2.length y) (d+1) c.2.2.2)
  (Nu:t.length≤16) (k:Nat) (hk:k<L.length) (fp:List Nat) (s:Eng) (W:World) (hS:SpG w0 g t L ag0 kg0 ag1 kg1 at_ kt aL kL bz bv bs br f fp (some s) W) (zf:s.on L.length k) (hr:s.reads.getD k []=[]):
  Calls Tryz.prog 128 #[.pointer (some ⟨bz,0,none⟩),.int .i64 (k:Int)] W (Got (SpG w0 g t L ag0 kg0 ag1 kg1 at_ kt aL kL bz bv bs br f) fp W (BA g t L G L[k] k s)):=by
 obtain⟨w,hw⟩:=nm (w0);subst hw;have HE:=Kz E;have zg:=Kz y9;have gT:=Kz za;have zl:=Kz ze;have Ma:=Kz gF;have HS:=Kz hS;have HC:=Kz hS.1;have Ml:=Kz zf;have Mm:=Kz hr;obtain⟨fl,hl⟩:=E.hL;obtain⟨a9,k9,gV,Mo,Mq,zn⟩:=hl.open;injection gV with gV _ Mr;subst gV;subst Mr;obtain⟨bL,oL,rfl,NH⟩:=zn k hk;obtain⟨i0,i1,zo,zq⟩:=SlR.iX (show SlR fl w (.slice (some ⟨bL,oL,none⟩) L.length kL) L from hl) hk;obtain⟨X,hX⟩:=nm (L[k]);rw[←hX] at i0 i1 zo zq ⊢;obtain⟨J,Z⟩:=X;have j0:=HC.o.gr.keep i0;have j1:=HC.o.gr.keep i1;obtain⟨y0,y1,y2,y3,y8⟩:=HC.o.fixed;have n0:(0:Int)≤(k:Int):=by omega
 have n1:(k:Int)<(L.length:Int):=by omega
 have zy:=Kz hk;clear E y9 za ze gF hS zf hr hl Mo Mq zn i0 i1 zo zq hX;simp only at j0 j1;obtain⟨K,gX⟩:=nm (dQ t J);obtain⟨SY,ik⟩:=nm (zB g t K);obtain⟨Ms,au⟩:=nm (BA g t L G (J,Z) k s);have Mc:=Kz (show Ms=(List.range t.length).foldl (jQ g t L G (J,Z) SY k) (some (0,s)) by rw[au,ik,gX];rfl);rw[←au];have Mt:=Kz gX;have Mv:=Kz ik;clear gX ik au;go_in;go_wp2_with fail;obtain⟨B,hB⟩:=nm (W.alloc (.cells #[.int .i64 J,.string Z] 45));rw[←hB];have gB:Gr W B:=by rw[hB];exact gd
 have VX:=Kz (show az B W.heap.size 45 [.int .i64 J,.string Z] by rw[hB];exact az.new rfl);have Mw:=Kz gB;have zH:W.heap.size∉fp:=fun hm=>Nat.lt_irrefl _ (HC.o.lt _ hm)
 have zL:=Kz zH;have u0:=gB.keep y0;have u1:=gB.keep y1;have u2:=gB.keep y2;have zu:=blk u0;have zO:B.cell? ⟨W.heap.size,0,none⟩=some (.int .i64 J):=VX.o.c 0;have zx:=blk zO;have Mx:=Kz (HS.o.grow gB);have iw:=Kz (HC.o.grow gB)
 have MB:Ky (∀x:Ext,Qz 163 #[.agg #[.slice at_ t.length kt],.int .i64 J] (B.ext x) (.int .i64 K)):=Kz (fun x=>by
  rw[Mt.o];obtain⟨ft,ht⟩:=HE.o.ht;exact iI t J _ (Rd.gr ht (iw.o.gr.trans gd)))
 have MC:Ky (∀x:Ext,Qz 68 #[.agg #[.slice ag0 g.1.length kg0,.slice ag1 g.2.length kg1],.agg #[.slice at_ t.length kt],.int .i64 K] (B.ext x) (.string SY)):=Kz (fun x=>by
  rw[Mv.o];obtain⟨fg,hg⟩:=HE.o.hg;obtain⟨ft,ht⟩:=HE.o.ht;exact iC g t K _ (Rd.gr hg (iw.o.gr.trans gd)) (Rd.gr ht (iw.o.gr.trans gd)) HE.o.wg)
 clear hB gB zH y0 y1 y2 y3 y8 j0 j1;refine wg ?_
 iterate 17 (go_big_quiet_step (first|(go_at_call 163;exact aG (MB.o _))|(go_at_call 68;exact aG (MC.o _))))
 refine wpQuiet_nil ?_
 intro _ kr
 obtain⟨nx,ku⟩:=kr;subst ku;clear u0 u1 u2 zu zO zx;have ax:=Kz (VX.o.gr (gd:Gr B (B.ext nx)));have A7:=Kz (Mx.o.grow (gd:Gr B (B.ext nx)));have BM:=Kz (Mw.o.trans (gd:Gr B (B.ext nx)));go_wp2_with fail;obtain⟨W2,EB⟩:=nm (B.ext nx);rw[←EB] at ax A7 BM ⊢;clear EB
 go_loopw [8,7] (fun s8 s7 wr=>∃(i:Nat) (u:Int) (r:Res),i≤t.length∧Ky (r=(List.range i).foldl (jQ g t L G (J,Z) SY k) (some (0,s)))∧Ky (Acc (SpG w g t L ag0 kg0 ag1 kg1 at_ kt (some ⟨bL,oL,none⟩) kL bz bv bs br f) fp W2 r u wr)∧s8=.int .i64 i∧s7=.int .i64 u) (fun s8 _ _=>t.length - (intOf s8).toNat)
 case atStart=>exact⟨0,0,some (0,s),by omega,Kz rfl,Kz ⟨fp,by decide,A7.o,fun p h=>(by obtain rfl:=Option.some.inj h;rfl),MvW.refl _ _⟩,rfl,rfl⟩
 case round=>
  obtain⟨i,u,r,hi,HR,ky,rfl,rfl⟩:=hrel
  rename World=>W3
  obtain⟨f3,E5,lq,bq,bB⟩:=ky.o;obtain⟨s3,Nv,oH,-⟩:=lq.core;have ae:=Kz oH;have FX:=Kz lq;have F4:=Kz E5;have F5:=Kz bq;have F6:=Kz bB;have o5:W.heap.size∉f3:=bB.o ax.o.lt zL.o;have o9:=Kz o5;have Md:=Kz (bB.row ax.o zL.o);obtain⟨y0,y1,y2,y3,y8⟩:=oH.fixed;clear E5 lq bq bB oH o5 ky
  by_cases V:i<t.length
  ·obtain⟨ft,vt,F8,Ha⟩:=HE.o.ht
   obtain rfl:Value.slice at_ t.length kt=vt:=by simpa using F8
   obtain⟨NI,NJ,ay,-,-,Me⟩:=Ha.open;injection ay with ay _ Mf;subst ay;subst Mf;have He:=ae.o.gr;obtain⟨b,off,rfl,NK⟩:=Me i V;obtain⟨p0,p1,p2,p3,p4,p5,NL,NM,NN,NP,ME,NQ,MF,qb,MG,bq,MH,MI,Nw,Ny,MJ,MK,ML,MM,HV,MN,MO⟩:=KZ Ha V He;have ah:=Kz (show nT g t i=((dJ g.2 p4).getD fH).2.2.2.2.2 by unfold nT;rw[gG V,←ME.o]);have i0:(0:Int)≤(i:Int):=by omega
   have i1:(i:Int)<(t.length:Int):=by omega
   have NR:=zI1 i (by omega);obtain⟨Y,hY⟩:=nm ((dJ g.2 p4).getD fH);have MP:=Kz hY;rw[←hY] at ah;have k0:=fun(w':World) (h:Gr W3 w')=>(⟨h.keep y0,h.keep y1,h.keep y2,h.keep HV⟩:_∧_∧_∧_)
   clear hY MF qb MG bq MH MI He F8;go_wp2_with fail
   go_cut [9] (fun s9 wr=>Js w W3 Y s9 wr)
   case first=>
    obtain⟨fg,hg⟩:=HE.o.hg;have HY:=Kz hg;clear hg
    go_region_held3 (fun w'=>Gr W3 w') (exact ga)
     (first|(go_at_call 97;refine(iM g p4 _ (Rd.gr HY.o (ae.o.gr.trans gd)) HE.o.wg).mono ?_;rintro e w' ⟨es,fq,rfl,hr,MQ,z9,rfl⟩;obtain⟨s0,s1,s2,s3,s4,T,MR,MS,MU,MV,MW,MX,MZ,M0,HZ,q8,rfl,-,H5,bH,IV,Nz,NA,KX,NB,NC,bR,ND,NF⟩:=KV (x:=(dJ g.2 p4).getD fH) hr;have M3:=Kz q8;have bX:=Lt q8 hr;clear hr q8;obtain⟨b2,q9⟩:∃b:Bool,b=(dJ g.2 p4).isSome:=⟨_,rfl⟩;rw[←q9];have NS:=Kz q9;clear q9))
    all_goals
     go_wp2_with fail;go_meet;have M4:Y=(s0,s1,s2,s3,s4,T):=MP.o.trans M3.o.symm;subst M4;have cB:∀c∈fq,c<w.heap.size∨_≤c:=fun c hc=>(MQ c hc).imp (Rd.lt HY.o c) id
     have NT:=ae.o.gr.size;refine⟨_,[.string s0,.string s1,.slice MR s2.length MS,.bool s3,.slice MV s4.length MW,.slice MZ T.length M0],fq,rfl,gd,fun j u O=>?_,?_,by first|omega|(simp;done)|(simp;omega),fun c hc=>(cB c hc).imp id (fun h=>by simp at h;omega)⟩
     ·match j,O with
      |0,O=>obtain rfl:=Option.some.inj O;exact kd
      |1,O=>obtain rfl:=Option.some.inj O;exact kd
      |2,O=>obtain rfl:=Option.some.inj O;exact kd
      |3,O=>obtain rfl:=Option.some.inj O;exact kd
      |4,O=>obtain rfl:=Option.some.inj O;exact kd
      |5,O=>obtain rfl:=Option.some.inj O;exact kd
     ·first
       |(refine Rd.gr bX.o ?_;(repeat(first|exact Gr.refl _|apply Gr.ext|apply Gr.alloc|apply Gr.drew));done)
       |((with_reducible refine Rd.mono (dO ?_) bX.o);exact fun c hc e=>by subst e;have:=cB _ hc;simp at this;omega)
       |((with_reducible refine Rd.mono (dM ?_) bX.o);exact fun c hc e=>by subst e;have:=cB _ hc;simp at this;omega)
       |((with_reducible refine Rd.mono (iT ?_) bX.o);exact fun c hc e=>by subst e;have:=cB _ hc;simp at this;omega)
   case rest=>
    obtain⟨b9,M5,NU,rfl,g9,K3,K4,M6,K6⟩:=hcut
    rename World=>W5
    obtain⟨s0,s1,s2,M7,s4,T⟩:=Y;obtain⟨NV,MU,NW,MX,NY,HZ,La,sO,H5,bH,IV,KX,bR⟩:=aM (cs:=M5.toArray) s0 s1 s2 M7 s4 T (by simpa using K4);obtain rfl:=toL La;obtain⟨a5,k5,rfl,-,-,-⟩:=bR.open;have c5:=K3 5 _ rfl;have M8:=Kz bR;have M9:=Kz (FX.o.grow g9)
    have uf:b9∉f3:=fun hm=>by
     have h1:=ae.o.lt b9 hm;omega
    have Na:=Kz uf;have Mg:=Kz c5;have aZ:=Kz (show Ap HZ f3 from Jr (fun c hc=>K6 c (by rw[sO];simp[hc])) ae.o.ge ae.o.lt);have uo:=Kz (Md.o.gr g9);have Nb:=Kz (F6.o.gr g9);have cK:=(gT.o i).1;have uq:=Kz (gT.o i).2;rw[ah.o] at cK uq;have uz:=Kz (Ma.o i V);rw[ah.o] at uz;simp only at cK uq uz ah;clear k0 y0 y1 y2 y3 y8 MJ MK ML MM HV MN MO K3 K4 La sO H5 bH IV KX bR g9 uf K6 M6;go_wp2_with fail;clear c5
    go_loopw [11,7] (fun ve s7 wr=>∃(j:Nat) (u2:Int) (U:Res),j≤T.length∧Ky (U=(T.take j).foldl (gp g t L G (J,Z) SY i k) r)∧Ky (Acc (SpG w g t L ag0 kg0 ag1 kg1 (some ⟨b,off,none⟩) kt (some ⟨bL,oL,none⟩) kL bz bv bs br f) f3 W5 U u2 wr)∧ve=.int .i64 j∧s7=.int .i64 u2) (fun ve _ _=>T.length - (intOf ve).toNat)
    case atStart=>exact⟨0,u,r,by omega,Kz rfl,Kz ⟨f3,F4.o,M9.o,F5.o,MvW.refl _ _⟩,rfl,rfl⟩
    case round=>
     obtain⟨j,u2,U,O,cO,dB,rfl,rfl⟩:=hrel
     rename World=>W6
     obtain⟨f6,Li,vB,Lj,vD⟩:=dB.o;obtain⟨s6,NG,Lm,-⟩:=vB.core;have Nc:=Kz Lm;have Ls:=Kz vB;have vF:=Kz Li;have vG:=Kz Lj;have D:=Kz vD;have c5:=vD.cell Mg.o Na.o;clear Li vB Lj vD Lm dB
     by_cases dS:j<T.length
     ·obtain⟨cb,co,e0,e1,e2,e3,e4,e5,ea,en,ec,h0,h1,h2,h3,h4,h5,ha,hn,hc,fy,fz,rfl,Lv,dV,fe,Lx,LA,hcell⟩:=Ic M8.o dS
      obtain⟨C,hC⟩:=nm (T[j]);have aj:=Kz (show(T.take (j+1)).foldl (gp g t L G (J,Z) SY i k) r=gp g t L G (J,Z) SY i k U C by rw[List.take_succ_eq_append_getElem dS,List.foldl_append,←cO.o,hC];rfl);have vL:C∈T:=by rw[hC];exact List.getElem_mem dS
      rw[←hC] at dV fe hcell;have vO:=Kz (uz.o C vL);have vR:=Kz (uq.o C vL);have fu:=Kz (Dh zg.o gT.o Ml.o Mm.o (show i<16 by omega) ah.o dS HR.o cO.o);obtain⟨n0,n1,C2,C3⟩:=C;simp only at dV fe hcell vO vR;have I:cb∉f3:=aZ.o _ Lv;have z0:=D.o.cell (hcell 0 _ rfl) I;have z1:=D.o.cell (hcell 1 _ rfl) I;have z2:=D.o.cell (hcell 2 _ rfl) I;have z3:=D.o.cell (hcell 3 _ rfl) I;have z4:=D.o.cell (hcell 4 _ rfl) I;have z5:=D.o.cell (hcell 5 _ rfl) I;have z6:=D.o.cell (hcell 6 _ rfl) I;have z7:=D.o.cell (hcell 7 _ rfl) I;have z8:=D.o.cell (hcell 8 _ rfl) I;have z9:=D.o.cell (hcell 9 _ rfl) I;have Nf:=D.o.cell (hcell 10 _ rfl) I;have Ng:=D.o.cell (hcell 11 _ rfl) I;have z12:=D.o.cell (hcell 12 _ rfl) I;have Nh:=D.o.cell (hcell 13 _ rfl) I;have Ni:=D.o.cell (hcell 14 _ rfl) I;have Nj:=D.o.cell (hcell 15 _ rfl) I;rw[Nat.add_zero] at z0;have LB:=Kz dV;have LC:=Kz fe;have LD:=Kz (aZ.o.sub Lx);have LF:=Kz (aZ.o.sub LA);have j0:(0:Int)≤(j:Int):=by omega
      have j1:(j:Int)<(T.length:Int):=by omega
      have NZ:=zI1 j (by omega);clear hC vL dV fe Lx LA hcell Lv I;go_wp2_with fail;obtain⟨W7,gD⟩:=nm (W6.alloc (.cells #[.string n0,.string n1,.int .i64 e0,.int .i64 e1,.int .i64 e2,.int .i64 e3,.string e4,.string e5,.slice ea en ec,.int .i64 h0,.int .i64 h1,.int .i64 h2,.int .i64 h3,.string h4,.string h5,.slice ha hn hc] 186));rw[←gD];have g7:Gr W6 W7:=by rw[gD];exact gd
      have VC:=Kz (show az W7 W6.heap.size 186 [.string n0,.string n1,.int .i64 e0,.int .i64 e1,.int .i64 e2,.int .i64 e3,.string e4,.string e5,.slice ea en ec,.int .i64 h0,.int .i64 h1,.int .i64 h2,.int .i64 h3,.string h4,.string h5,.slice ha hn hc] by rw[gD];exact az.new rfl);have LG:=Kz g7;have LH:W6.heap.size∉f6:=fun hm=>Nat.lt_irrefl _ (Nc.o.lt _ hm)
      have LJ:=Kz LH;have vX:=D.o.o uo.o.lt o9.o;have Mh:=Kz vX;have wF:=Kz ((D.o.row uo.o o9.o).gr g7);obtain⟨b0,b1⟩:=VC.o.c2;obtain⟨v0,v1⟩:=wF.o.c2;have zb:=blk b0;have zv:=blk v1;have LK:=Kz (Ls.o.grow g7);have LM:=Kz (D.o.gr g7);clear gD g7 LH vX z0 z1 z2 z3 z4 z5 z6 z7 z8 z9 Nf Ng z12 Nh Ni Nj c5
      by_cases hq:n0=SY∧n1=Z
      ·obtain⟨rfl,rfl⟩:=hq
       have wL:=Kz (fun v hv=>Gn (g:=g) (t:=t) (L:=L) (G:=G) (x:=(J,n1)) (sym:=n0) (node:=i) (by_:=k) (c:=((n0,n1,C2,C3):aD d)) (o:=U) ⟨rfl,rfl⟩ (u:=u2) (v:=v) vG.o hv);have Nk:=fun(w':World) (h:Wr f6 W7 w')=>(VC.o.wr h LJ.o).c16
       have Nl:=fun(w':World) (h:Wr f6 W7 w')=>(wF.o.wr h Mh.o).c2
       have LP:=Kz (show∀s',U.map (·.2)=some s'→s'.on L.length k∧(s'.reads.getD k []).length+cZ (d+1) C2≤2000 by
        intro s' w9
        obtain⟨p,hp,rfl⟩:=Option.map_eq_some_iff.1 w9;have h1:=fu.o p hp;have h2:=vR.o.1;exact⟨h1.1,by omega⟩)
       go_wp2_with fail;refine wp_region_held_drew (S:=fun w'=>Wr f6 W7 w') (by kernel_rfl) ((gd:Gr W7 W7.drew).eF _) (fun y5=>?_);refine aK 0 75 ?_;refine aK 1 76 ?_;refine aK 2 77 ?_;refine aK 3 78 ?_;refine aK 4 79 ?_;refine aK 5 80 ?_;refine aK 6 81 ?_;refine aK 7 82 ?_;refine aK 8 83 ?_;refine aK 9 84 ?_;refine aK 10 85 ?_;refine aK 11 86 ?_;refine aK 12 87 ?_;refine aK 13 88 ?_;refine aK 14 89 ?_;refine aK 15 90 ?_;refine aK 16 91 ?_;refine aK 18 93 ?_;refine aK 19 94 ?_;refine gy [17] ?_;refine AllReadyH.cons rfl (fun K hK=>?_) AllReadyH.nil;go_simp
       go_at_call 130
       refine(zl.o i k _ V ⟨V,rfl⟩ zy.o C2 fy #[.int .i64 e0,.int .i64 e1,.int .i64 e2,.int .i64 e3,.string e4,.string e5,.slice ea en ec] f6 (U.map (·.2)) _ (Rd.gr (D.o.rd LB.o LD.o) (tg LG)) (D.o.apart LD.o (Rd.lt LB.o)) (LK.o.grow gd) vO.o.1 LP.o).mono ?_;rintro e9 W8 ⟨v,f8,rfl,Nn,LQ,LU,LV⟩;have xc:=Kz LQ;have LW:=Kz LU;have ak:=Kz ((MvW.dm gd).trans LV:MvW f6 W7 f8 W8);clear LQ LU LV Nn;refine hK.out _ _ ak.o.wr (fun Np=>?_);clear hK K
       try simp only[Act.put,uq1,uq2,uq3]
       refine aK 20 95 ?_
       refine aK 21 96 ?_
       refine wpAnyH_done (by kernel_rfl) ?_ _
       have LX:=Kz (show∀s',(((U.map (·.2)).bind fun s=>eX g t L G i (k:Int) (d+1) C2 s).map (·.2))=some s'→s'.on L.length k∧(s'.reads.getD k []).length+cZ (d+1) C3≤2000 by
        intro s' w9
        obtain⟨p,hp,rfl⟩:=Option.map_eq_some_iff.1 w9;obtain⟨s1,bH,qb⟩:=Option.bind_eq_some_iff.1 hp;obtain⟨q,hq,rfl⟩:=Option.map_eq_some_iff.1 bH;have h1:=fu.o q hq;have h2:=lG zg.o h1.1 qb;have h3:=h2.room h1.1.1;have h4:=vR.o;simp only[Int.toNat_natCast] at h3;exact⟨h2.on h1.1,by omega⟩)
       have bg:=Kz (wL.o v LW.o);obtain⟨R1,LY⟩:=nm (((U.map (·.2)).bind fun s=>eX g t L G i (k:Int) (d+1) C2 s));rw[←LY] at xc LW bg LX;have x9:=Kz (D.o.apart LF.o (Rd.lt LC.o));have yc:=Kz (Rd.gr (D.o.rd LC.o LF.o) LG.o);have Mi:=Kz (ak.o.apart x9.o (Rd.lt yc.o));have Mj:=Kz (ak.o.rd yc.o x9.o);have LZ:=Kz (LM.o.trans ak.o);obtain⟨-,-,-,-,-,-,-,-,-,d9,d10,d11,d12,d13,d14,d15⟩:=(ak.o.row VC.o LJ.o).c16;clear Nk Nl b0 b1 v0 v1 zb zv wL LP y5 Np LY
       by_cases ai:v=J
       ·have yu:=Kz (aj.o.trans (bg.o.trans (if_pos ai)))
        have ev:(v==J)=true:=by simpa using ai
        clear ai;go_simp;go_wp2_with fail;refine(zl.o i k _ V ⟨V,rfl⟩ zy.o C3 fz #[.int .i64 h0,.int .i64 h1,.int .i64 h2,.int .i64 h3,.string h4,.string h5,.slice ha hn hc] f8 (R1.map (·.2)) _ (Rd.gr Mj.o gd) Mi.o (xc.o.grow gd) vO.o.2 LX.o).mono ?_;rintro e9 W9 ⟨v3,f9,rfl,N7,L6,L8,L9⟩;have Nq:=Kz L6;have Nr:=Kz L8;have Ns:=Kz ((MvW.dm gd).trans L9:MvW f8 W8 f9 W9);clear L6 L8 L9 d9 d10 d11 d12 d13 d14 d15;go_wp2_with fail;exact⟨⟨j+1,bits .or .i64 u2 v3,_,by omega,Kz yu.o.symm,Kz ⟨f9,wf_bits _ _ _ _,by rw[Cy];exact Nq.o.grow gd,or_val Nr.o,LZ.o.trans (Ns.o.gr gd)⟩,by go_num,rfl⟩,by simp[intOf];omega⟩
       ·have yu:=Kz (aj.o.trans (bg.o.trans (if_neg ai)))
        have ev:(v==J)=false:=by simpa using ai
        clear ai d9 d10 d11 d12 d13 d14 d15;go_simp;go_wp2_with fail;exact⟨⟨j+1,u2,_,by omega,Kz yu.o.symm,Kz ⟨f8,vF.o,by rw[wI];exact xc.o.grow gd,Ck,LZ.o.gr gd⟩,by go_num,rfl⟩,by simp[intOf];omega⟩
      ·have Mk:=Kz (EN (g:=g) (t:=t) (L:=L) (G:=G) (x:=(J,Z)) (sym:=SY) (node:=i) (by_:=k) (c:=((n0,n1,C2,C3):aD d)) (o:=U) hq)
       have y7:((n0.toList==SY.toList)=false)∨((n0.toList==SY.toList)=true∧(n1.toList==Z.toList)=false):=
        (Classical.em (n0=SY)).elim (fun a=>.inr ⟨by simp[a],by simpa using fun e=>hq ⟨a,str_inj e⟩⟩) (fun a=>.inl (by simpa using fun e=>a (str_inj e)))
       clear hq;rcases y7 with e|⟨e,e'⟩
       all_goals
        refine wg ?_
        iterate 22 (go_big_quiet_step (fail))
        refine wpQuiet_nil ?_
        intro _ kr
        obtain⟨nx,ku⟩:=kr;subst ku;go_wp2_with fail;exact⟨⟨j+1,u2,U,by omega,Kz (by rw[aj.o,Mk.o]),Kz ⟨f6,vF.o,LK.o.grow gd,vG.o,LM.o.gr gd⟩,by go_num,rfl⟩,by simp[intOf];omega⟩
     ·obtain rfl:j=T.length:=by omega
      rw[List.take_length] at cO
      have Nt:=Kz (show U=(List.range (i+1)).foldl (jQ g t L G (J,Z) SY k) (some (0,s)) by
       rw[cO.o,List.range_succ,List.foldl_append,←HR.o]
       show _=(nT g t i).foldl _ r
       rw[ah.o])
      go_wp2_with fail;refine⟨⟨i+1,u2,U,by omega,Nt,Kz ⟨f6,vF.o,Ls.o.grow gd,vG.o,Nb.o.trans (D.o.gr gd)⟩,by go_num,rfl⟩,by simp[intOf];omega⟩
  ·obtain rfl:i=t.length:=by omega
   go_wp2_with fail;go_ret;rw[Mc.o,←HR.o];refine Acc.got ⟨f3,F4.o,FX.o.grow gd,F5.o,(MvW.dm BM.o).trans (F6.o.gr gd)⟩
end
end Go.Proofs.YtleafadpfeibfaaGreat
namespace Go.Proofs.YtleafadpfeibfaaGreat
open Go.RowKit
variable{d:Nat}
section
variable{w0:World}{g:af d}{t:List aT}{L:List av}{ag0:Option Addr}{kg0:Nat}{ag1:Option Addr}{kg1:Nat}{at_:Option Addr}{kt:Nat}{aL:Option Addr}{kL:Nat}{bz bv bs br f:Nat}
def J6(w0:World)(g:af d)(t:List aT)(L:List av)(ag0:Option Addr)(kg0:Nat)(ag1:Option Addr)(kg1:Nat)(at_:Option Addr)(kt:Nat)(aL:Option Addr)(kL:Nat)(bz bv bs br f:Nat)(G:Eng→Int→Int→Res):Prop:=
 ∀(k:Nat) (hk:k<L.length) (fp:List Nat) (s:Eng) (W:World),SpG w0 g t L ag0 kg0 ag1 kg1 at_ kt aL kL bz bv bs br f fp (some s) W→s.on L.length k→s.reads.getD k []=[]→
  Calls Tryz.prog 128 #[.pointer (some ⟨bz,0,none⟩),.int .i64 (k:Int)] W (Got (SpG w0 g t L ag0 kg0 ag1 kg1 at_ kt aL kL bz bv bs br f) fp W (BA g t L G L[k] k s))
def GX(B:World)(Y:aQ)(s:Value)(wr:World):Prop:=
 ∃b,s=.pointer (some ⟨b,0,none⟩)∧Gr B wr∧wr.cell? ⟨b,2,none⟩=some (.int .i64 Y.2.2.1)
def JE(B:World)(o:Option (ig d))(h q:Value)(wr:World):Prop:=
 ∃b cs fr,h=.pointer (some ⟨b,0,none⟩)∧q=.bool o.isSome∧Gr B wr∧(∀j v,cs[j]?=some v→wr.cell? ⟨b,j,none⟩=some v)∧Rd.rd fr wr cs (o.getD qW)∧∀c∈fr,B.heap.size≤c
theorem KS(E:EnvD w0 g t L ag0 kg0 ag1 kg1 at_ kt aL kL){G:Eng→Int→Int→Res}
  (ky:∀node k m,node<t.length→(∃h:node<t.length,t[node].2.2.2.2.2.length=m)→k<L.length→EvS w0 g t L ag0 kg0 ag1 kg1 at_ kt aL kL bz bv bs br f G node k m (d+1))
  (dB:J6 w0 g t L ag0 kg0 ag1 kg1 at_ kt aL kL bz bv bs br f G):
  J9 w0 (.slice ag0 g.1.length kg0) (.slice ag1 g.2.length kg1) (.slice at_ t.length kt) (.slice aL L.length kL) L.length bz bv bs br f (KM g t L G):=by
 intro fp s W k hS dS hr
 have hk:k<L.length:=by
  have h1:=hS.2.sl
  by_cases h2:k<L.length
  ·exact h2
  ·exfalso
   have h3:=dS.1.2;simp only[Int.toNat_natCast] at h3;rw[sw (by omega)] at h3;exact absurd h3 (by decide)
 have HE:=Kz E;have vG:=Kz ky;have dV:=Kz dB;have HS:=Kz hS;have HC:=Kz hS.1;have lq:=Kz dS;have oH:=Kz hr;obtain⟨fl,hl⟩:=E.hL;obtain⟨a9,k9,fe,vL,vO,o5⟩:=hl.open;injection fe with fe _ vR;subst fe;subst vR;obtain⟨bL,oL,rfl,zb⟩:=o5 k hk;obtain⟨i0,i1,fu,gD⟩:=SlR.iX (show SlR fl w0 (.slice (some ⟨bL,oL,none⟩) L.length kL) L from hl) hk;have o9:=Kz (dV.o k hk fp s);obtain⟨X,hX⟩:=nm (L[k])
 have ah:=Kz (show KM g t L G s k=if ((ed g t X).getD dR).2.2.1=3 then BA g t L G X k s else match zV g t X with|none=>some (0,s)|some p=>eX g t L G p.1.toNat k (d+1) p.2 s by
  unfold KM;rw[getD_at (z:=iN) hk,←hX];rfl)
 rw[←hX] at i0 i1 fu gD o9;obtain⟨x0,x1⟩:=X;have HX:=Kz (fun W=>bZ (w:=W) x0 x1 fu gD);have j0:=HC.o.gr.keep i0;have j1:=HC.o.gr.keep i1;obtain⟨y0,y1,y2,y3,y8⟩:=HC.o.fixed;have n0:(0:Int)≤(k:Int):=by omega
 have n1:(k:Int)<(L.length:Int):=by omega
 obtain⟨vX,gF⟩:=nm (KM g t L G s k);rw[←gF] at ah ⊢;clear E ky dB hS dS hr hl vL vO o5 i0 i1 fu gD hX gF dV;simp only at j0 j1;go_in;go_wp2_with fail;obtain⟨B,hB⟩:=nm (W.alloc (.cells #[.int .i64 x0,.string x1] 45));rw[←hB];have gB:Gr W B:=by rw[hB];exact gd
 have VX:=Kz (show az B W.heap.size 45 [.int .i64 x0,.string x1] by rw[hB];exact az.new rfl);have gT:=Kz gB;have u0:=gB.keep y0;have u1:=gB.keep y1;have u2:=gB.keep y2;obtain⟨bX,cB⟩:=VX.o.c2;have k0:=fun(w':World) (h:Gr B w')=>(⟨h.keep u0,h.keep u1,h.keep u2,h.keep bX,h.keep cB⟩:_∧_∧_∧_∧_)
 obtain⟨A,hA⟩:=nm ((ed g t (x0,x1)).getD dR);have HA:=Kz hA;rw[←hA] at ah;clear hB gB y0 y1 y2 y3 y8 j0 j1 hA;obtain⟨fg,hg⟩:=HE.o.hg;obtain⟨ft,ht⟩:=HE.o.ht;have qb:=Kz hg;have q8:=Kz ht;clear hg ht
 go_cut [6] (fun s6 wr=>GX B A s6 wr)
 case first=>
  go_region_held3 (fun w'=>Gr B w') (exact ga)
   (first|(go_at_call 127;refine(su g t (x0,x1) _ (Rd.gr qb.o ((HC.o.gr.trans gT.o).trans gd)) (Rd.gr q8.o ((HC.o.gr.trans gT.o).trans gd)) (HX.o _) HE.o.wg).mono ?_;rintro e w' ⟨es,fq,rfl,hr,q9,z9,rfl⟩;obtain⟨p0,p1,p2,p3,hyp,rfl,ze,gV,zf,zg⟩:=Ld (x:=(ed g t (x0,x1)).getD dR) hr;have gX:=Kz hyp;have au:=Lt hyp hr;clear hr hyp;obtain⟨bb,J⟩:∃b:Bool,b=(ed g t (x0,x1)).isSome:=⟨_,rfl⟩;rw[←J];have sO:=Kz J;clear J))
  all_goals
   go_wp2_with fail;go_meet;have wF:A=(p0,p1,p2,p3):=HA.o.trans gX.o.symm;rw[wF];refine⟨_,rfl,gd,?_⟩;exact kd
 case rest=>
  obtain⟨b6,rfl,g6,c2⟩:=hcut
  rename World=>W2
  have aj:=Kz (gT.o.trans g6)
  by_cases hm:A.2.2.1=3
  ·have K:=Kz (ah.o.trans (if_pos hm))
   have e3:(A.2.2.1==3)=true:=by simp[hm]
   obtain⟨AM,ax⟩:=nm (A.2.2.1);rw[←ax] at e3 c2;clear ax hm k0 u0 u1 u2 bX cB g6;go_wp2_with fail;refine(o9.o _ (HS.o.grow (tg aj)) lq.o oH.o).mono ?_;rintro e w4 ai;have ay:=Kz (ai.lift (W:=W) (MvW.dm (tg aj)) K.o);obtain⟨v4,f4,rfl,-⟩:=ai;go_wp2_with fail;go_ret;exact ay.o
  ·have K:=Kz (ah.o.trans (if_neg hm))
   have e3:(A.2.2.1==3)=false:=by simpa using hm
   obtain⟨AM,ax⟩:=nm (A.2.2.1);rw[←ax] at e3 c2;have t0:=g6.keep u0;have t1:=g6.keep u1;have t2:=g6.keep u2;have t3:=g6.keep bX;have t4:=g6.keep cB;clear ax hm k0 u0 u1 u2 bX cB g6;have k0:=fun(w':World) (h:Gr W2 w')=>(⟨h.keep t0,h.keep t1,h.keep t2,h.keep t3,h.keep t4⟩:_∧_∧_∧_∧_)
   obtain⟨D,hD⟩:=nm (zV g t (x0,x1));have HD:=Kz hD;rw[←hD] at K;clear hD;go_wp2_with fail
   go_cut [8,9] (fun s8 s9 wr=>JE W2 D s8 s9 wr)
   case first=>
    go_region_held3 (fun w'=>Gr W2 w') (exact ga)
     (first|(go_at_call 129;refine(Cw g t (x0,x1) _ (Rd.gr qb.o ((HC.o.gr.trans aj.o).trans gd)) (Rd.gr q8.o ((HC.o.gr.trans aj.o).trans gd)) (HX.o _) HE.o.wg).mono ?_;rintro e w' ⟨es,fq,rfl,hr,q9,z9,rfl⟩;obtain⟨p0,O,T,U,V,Y,Z,ae,vB,vD,za,hyp,rfl,-,gV,aZ,bg,bq,bB,bH,bR,ak,y7,y9⟩:=Lp (x:=(zV g t (x0,x1)).getD qW) hr;have gX:=Kz hyp;have au:=Lt hyp hr;clear hr hyp;obtain⟨bb,J⟩:∃b:Bool,b=(zV g t (x0,x1)).isSome:=⟨_,rfl⟩;rw[←J];have sO:=Kz J;clear J))
    all_goals
     go_wp2_with fail;go_meet;have cK:∀c∈fq,_≤c:=fun c hc=>(q9 c hc).resolve_left (by simp)
     have J:bb=D.isSome:=by rw[HD.o];exact sO.o
     refine⟨_,[.int .i64 p0,.int .i64 O,.int .i64 T,.int .i64 U,.int .i64 V,.string Y,.string Z,.slice vB ae.length vD],fq,rfl,by rw[J],gd,fun j u q=>?_,?_,fun c hc=>by have h:=cK c hc;simp at h;omega⟩
     ·match j,q with
      |0,q=>obtain rfl:=Option.some.inj q;exact kd
      |1,q=>obtain rfl:=Option.some.inj q;exact kd
      |2,q=>obtain rfl:=Option.some.inj q;exact kd
      |3,q=>obtain rfl:=Option.some.inj q;exact kd
      |4,q=>obtain rfl:=Option.some.inj q;exact kd
      |5,q=>obtain rfl:=Option.some.inj q;exact kd
      |6,q=>obtain rfl:=Option.some.inj q;exact kd
      |7,q=>obtain rfl:=Option.some.inj q;exact kd
     ·rw[HD.o,←gX.o]
      first
       |(refine Rd.gr au.o ?_;(repeat(first|exact Gr.refl _|apply Gr.ext|apply Gr.alloc|apply Gr.drew));done)
       |((with_reducible refine Rd.mono (dO ?_) au.o);exact fun c hc e=>by subst e;have:=cK _ hc;simp at this;omega)
       |((with_reducible refine Rd.mono (dM ?_) au.o);exact fun c hc e=>by subst e;have:=cK _ hc;simp at this;omega)
       |((with_reducible refine Rd.mono (iT ?_) au.o);exact fun c hc e=>by subst e;have:=cK _ hc;simp at this;omega)
   case rest=>
    obtain⟨b8,wL,uf,rfl,rfl,g8,I,ik,uo⟩:=hcut
    rename World=>W5
    have cO:=Kz (aj.o.trans g8);clear k0 t0 t1 t2 t3 t4 c2
    cases D with
    |none=>
     simp only at K;clear I ik;go_wp2_with fail;go_ret;rw[K.o];exact SpS.nZ (by decide) (HC.o.grow (tg cO)) HS.o.2 (MvW.dm (tg cO))
    |some P=>
     simp only at K;obtain⟨m,hm,w9,iw,kr⟩:=Gb HE.o.good HE.o.tree HD.o.symm;obtain⟨p0,O,T,U,V,Y,Z,ae⟩:=P;obtain⟨vp,zl,uq,ku,gV,aZ,bg,bq,bB,bH,bR,ak⟩:=jE (cs:=wL.toArray) p0 O T U V Y Z ae (by simpa using ik);obtain rfl:=toL uq;have uz:=Kz (bJ (d:=d) (w:=W5) O T U V Y Z ae aZ bg bq bB bH bR ak);obtain⟨xc,x9,rfl,-,-,-⟩:=ak.open;simp only[List.nil_append] at ku uz;subst ku;simp only at hm iw kr K;subst hm;have yc:=Kz (show vX=eX g t L G m k (d+1) (O,T,U,V,Y,Z,ae) s by rw[K.o,Int.toNat_natCast]);have d0:=I 0 _ rfl;have d1:=I 1 _ rfl;have d2:=I 2 _ rfl;have d3:=I 3 _ rfl;have d4:=I 4 _ rfl;have d5:=I 5 _ rfl;have d6:=I 6 _ rfl;have d7:=I 7 _ rfl;have yu:=Kz iw;have ve:=Kz w9;have vF:=Kz (show(s.reads.getD k []).length+cZ (d+1) (O,T,U,V,Y,Z,ae)≤2000 by rw[oH.o];simpa using(show cZ (d+1) (O,T,U,V,Y,Z,ae)≤2000 by omega))
     have y5:=Kz (show Ap uf fp from fun c hc hf=>by
      have h1:=uo c hc;have h2:=HC.o.lt c hf;have h3:=aj.o.size;omega)
     clear I ik uq gV aZ bg bq bB bH bR ak K iw kr uo g8;go_wp2_with fail;refine(vG.o m k _ ve.o ⟨ve.o,rfl⟩ hk (O,T,U,V,Y,Z,ae) uf #[.int .i64 O,.int .i64 T,.int .i64 U,.int .i64 V,.string Y,.string Z,.slice xc ae.length x9] fp (some s) _ (Rd.gr uz.o gd) y5.o (HS.o.grow (tg cO)) yu.o (fun s1 h1=>by obtain rfl:=Option.some.inj h1;exact⟨lq.o,vF.o⟩)).mono ?_;rintro e w4 ai;have ay:=Kz (ai.lift (W:=W) (MvW.dm (tg cO)) yc.o);obtain⟨v4,f4,rfl,-⟩:=ai;go_wp2_with fail;go_ret;exact ay.o
end
end Go.Proofs.YtleafadpfeibfaaGreat
namespace Go.Proofs.YtleafadpfeibfaaGreat
open Go.RowKit
variable{d:Nat}
theorem FK{g:af d}(h:jI g)(n:aT):(ll g n).length≤4:=by
 unfold ll;rw[List.length_map]
 cases e:bW g.1 (leftOf g n) with
 |none=>show(dE.2:List aQ).length≤4;decide
 |some s=>exact(h.1.2.2.1.1 s (List.mem_of_find?_eq_some e)).2.1
theorem jX{g:af d}{t:List aT}(h:jI g)(ht:fP g t=true):(bU g t).length≤64:=by
 have key:∀l:List aT,(l.flatMap (ll g)).length≤4*l.length:=by
  intro l
  induction l with
  |nil=>simp
  |cons a l q=>
   rw[List.flatMap_cons,List.length_append,List.length_cons];have:=FK h a;omega
 unfold bU;rw[if_pos ht];have h1:=(jv.1 ht).1.2;have:=key t;omega
section
variable{w0:World}{g:af d}{t:List aT}{L:List av}{ag0:Option Addr}{kg0:Nat}{ag1:Option Addr}{kg1:Nat}{at_:Option Addr}{kt:Nat}{aL:Option Addr}{kL:Nat}{bz bv bs br f:Nat}
theorem EK(E:EnvD w0 g t L ag0 kg0 ag1 kg1 at_ kt aL kL){G:Eng→Int→Int→Res}{node by_ m:Nat}(D:Fu w0 (.slice ag0 g.1.length kg0) (.slice ag1 g.2.length kg1) (.slice at_ t.length kt) (.slice aL L.length kL) L.length bz bv bs br f G)(q:KpG L G)(B:by_<L.length)(h:node<t.length)(hm:t[node].2.2.2.2.2.length=m):
  ∀n,EvS w0 g t L ag0 kg0 ag1 kg1 at_ kt aL kL bz bv bs br f G node by_ m n
 |0=>fun x=>PEmpty.elim x
 |n+1=>JV E D q B h hm (EK E D q B h hm n)
theorem Ih(E:EnvD w0 g t L ag0 kg0 ag1 kg1 at_ kt aL kL)
  (D:∀f (G:Eng→Int→Int→Res),KpG L G→(∀node k m,node<t.length→(∃h:node<t.length,t[node].2.2.2.2.2.length=m)→k<L.length→EvS w0 g t L ag0 kg0 ag1 kg1 at_ kt aL kL bz bv bs br f G node k m (d+1))→J6 w0 g t L ag0 kg0 ag1 kg1 at_ kt aL kL bz bv bs br f G):
  ∀f,Fu w0 (.slice ag0 g.1.length kg0) (.slice ag1 g.2.length kg1) (.slice at_ t.length kt) (.slice aL L.length kL) L.length bz bv bs br f (yH g t L f):=by
 have hn:L.length≤1048576:=by
  rw[E.list];have:=jX E.good E.tree;omega
 have q:=G5 E.good E.tree;intro f
 induction f with
 |zero=>exact EZ hn (fun s k p _ h=>by cases h) (fun e h=>by omega)
 |succ f I=>
  have B:∀node k m,node<t.length→(∃h:node<t.length,t[node].2.2.2.2.2.length=m)→k<L.length→EvS w0 g t L ag0 kg0 ag1 kg1 at_ kt aL kL bz bv bs br f (yH g t L f) node k m (d+1):=by
   intro node k m hn hm hk
   obtain⟨_,hm⟩:=hm;exact EK E I (pG q f) hk hn hm (d+1)
  refine EZ hn (fun s k p hs h=>?_) (fun e he=>?_)
  ·obtain⟨m,hm⟩:=wZ (pG q f) q s k p hs h
   exact hm.still hs.1
  ·obtain rfl:f=e:=by omega
   exact KS E B (D f _ (pG q f) B)
theorem En(E:EnvD w0 g t L ag0 kg0 ag1 kg1 at_ kt aL kL)(f:Nat):Fu w0 (.slice ag0 g.1.length kg0) (.slice ag1 g.2.length kg1) (.slice at_ t.length kt) (.slice aL L.length kL) L.length bz bv bs br f (yH g t L f):=
 Ih E (fun f G q B=>IP E q (G5 E.good E.tree) B (fun node h c hc=>((Ew E.good E.tree h).2 c hc).1) (jv.1 E.tree).1.2) f
end
end Go.Proofs.YtleafadpfeibfaaGreat
namespace Go.Proofs.YtleafadpfeibfaaGreat
open Go.RowKit
theorem mI{α:Type}{xs:List α}{k:Nat}(h:k<xs.length)(o:α):o∈xs.take (k+1)↔o∈xs.take k∨o=xs[k]:=by
 rw[List.take_succ_eq_append_getElem h,List.mem_append,List.mem_singleton]
theorem dK{α:Type}{xs:List α}{k j:Nat}(h:k<xs.length)(hk:k<j):xs[k]∈xs.take j:=by
 rw[List.mem_take_iff_getElem];exact⟨k,by omega,rfl⟩
theorem xH{fp:List Nat}{u:Value}(xs:List ag)(w:World)(hu:SlR fp w u xs)(dS:fp.Nodup)(hlen:xs.length≤1048576):
  Calls Tryz.prog 252 #[u] w fun e w'=>∃v fq B,e=.returned v∧SlR fq w' v B∧(∀o:ag,o∈B↔o∈xs)∧B.length≤xs.length∧Wr fp w w':=by
 have HU:=Kz hu;have uf:=Kz dS;obtain⟨a,ca,rfl,h1,V,h3⟩:=hu.open;clear hu dS
 by_cases vL:xs.length<2
 ·have uo:(xs.length:Int)<2:=by omega
  go_in;go_wp2_with fail;go_ret;exact⟨_,fp,xs,rfl,HU.o.gr gd,fun o=>Iff.rfl,Nat.le_refl _,(gd:Gr w w).eF fp⟩
 ·have uo:¬(xs.length:Int)<2:=by omega
  obtain⟨b,off,rfl,hb⟩:=h3 0 (by omega);have dV:fp=[b]:=HU.o.Jb (by omega);have ay:=Kz dV;clear h3 dV;go_in;go_wp2_with fail
  go_loopw [3] (fun s3 wr=>∃k:Nat,1≤k∧k≤xs.length∧Ky (Gr w wr)∧s3=.int .i64 k) (fun s3 _=>xs.length - (intOf s3).toNat)
  case atStart=>exact⟨1,by omega,by omega,Kz (Gr.refl _),rfl⟩
  case round=>
   obtain⟨k,vO,hk,HG,rfl⟩:=hrel
   rename World=>W1
   by_cases fe:k<xs.length
   ·obtain⟨m,hm⟩:∃m,m+1=k:=⟨k - 1,by omega⟩
    have HM:=Kz hm;have fu:m<xs.length:=by omega
    have HS:=HU.o.gr HG.o;obtain⟨Y,J⟩:=nm (xs[k]);have K:=HS.iX fe;rw[←J] at K;have ax:=Kz J;obtain⟨p0,p1⟩:=Y;obtain⟨gB,gD,gF,gT⟩:=K;simp only at gB gD gF gT;clear J;obtain⟨Y,J⟩:=nm (xs[m]);have K:=HS.iX fu;rw[←J] at K;have bg:=Kz J;obtain⟨X,o1⟩:=Y;obtain⟨ae,ah,ai,aj⟩:=K;simp only at ae ah ai aj;clear J;have k0:(0:Int)≤(k:Int):=by omega
    have k1:(k:Int)<(xs.length:Int):=by omega
    have m0:(0:Int)≤(m:Int):=by omega
    have m1:(m:Int)<(xs.length:Int):=by omega
    have iw:=zI1 k (by omega)
    have gV:IntKind.i64.wrap ((k:Int) - 1)=(m:Int):=by
     rw[show(k:Int) - 1=(m:Int) by omega];exact IntWalk.i64_in _ (by omega)
    clear gF gT ai aj hm HS
    have Z:(p0=X∧p1=o1)∨(p0≠X)∨(p0=X∧p1.toList≠o1.toList):=
     (Classical.em (p0=X)).elim (fun t0=>(Classical.em (p1=o1)).elim (fun t1=>.inl ⟨t0,t1⟩) (fun t1=>.inr (.inr ⟨t0,fun e=>t1 (str_inj e)⟩))) (fun t0=>.inr (.inl t0))
    rcases Z with⟨rfl,rfl⟩|e|⟨rfl,e⟩
    ·have uq:=Kz (ax.o.symm.trans bg.o)
     go_wp2_with fail
     go_region
     all_goals
      have vR:k≤ca:=by omega
      go_wp2_with fail;clear gB gD ae ah gV m0 m1;have bq:=Kz (HG.o.trans (gd:Gr W1 W1.drew))
      go_loopw [3,5] (fun s3 s5 wr=>∃(i j D:Nat) (B:List ag),Ky (D+1=j)∧k≤i∧i<k+j∧k+j≤xs.length∧Ky (B.length=xs.length)∧Ky (B.drop (k+D)=xs.drop (k+D))∧Ky (∀o:ag,o∈B.take i↔o∈xs.take (k+j))∧Ky (SlR fp wr (.slice (some ⟨b,off,none⟩) xs.length ca) B)∧Ky (Wr fp w wr)∧s3=.int .i64 i∧s5=.int .i64 j) (fun s3 s5 _=>xs.length - k - (intOf s5).toNat)
      case atStart=>
       refine⟨k,1,0,xs,Kz rfl,Nat.le_refl _,by omega,by omega,Kz rfl,Kz rfl,Kz ?_,Kz (HU.o.gr bq.o),Kz (bq.o.eF fp),rfl,rfl⟩;intro o
       rw[mI fe];exact⟨fun h=>.inl h,fun h=>h.elim id fun h=>by rw[h,uq.o];exact dK fu (by have:=HM.o;omega)⟩
      case round=>
       clear HG bq;obtain⟨i,j,D,B,U,uz,vX,wF,O,bB,bH,I,bL,rfl,rfl⟩:=hrel
       rename World=>T
       have bR:i<B.length:=by have:=O.o;omega
       have wL:=zI1 j (by omega);have w9:=zI1 i (by omega);have i0:(0:Int)≤(i:Int):=by omega
       have i1:(i:Int)<(xs.length:Int):=by omega
       have j0:(0:Int)≤(j:Int):=by omega
       by_cases ak:k+j<xs.length
       ·have gX:k+j<B.length:=by have:=O.o;omega
        have bX:k+D<B.length:=by have:=O.o;have:=U.o;omega
        have cB:k+D<xs.length:=by have:=O.o;omega
        have e1:B[k+D]=xs[k+D]:=by
         have:=congrArg (fun l=>l[0]?) bB.o;simpa[bX,cB] using this
        have e2:B[k+j]=xs[k+j]:=by
         have h3:=U.o;have:=congrArg (fun l=>l[1]?) bB.o;simp only[List.getElem?_drop] at this;rw[show k+D+1=k+j by omega] at this;simpa[gX,ak] using this
        have E1:=Kz e1;have E2:=Kz e2;clear e1 e2;have HS:=I.o;obtain⟨Y,J⟩:=nm (B[k+j]);have K:=HS.iX gX;rw[←J] at K;have ax:=Kz J;obtain⟨q0,q1⟩:=Y;obtain⟨ik,kr,cK,cO⟩:=K;simp only at ik kr cK cO;clear J;obtain⟨Y,J⟩:=nm (B[k+D]);have K:=HS.iX bX;rw[←J] at K;have bg:=Kz J;obtain⟨X,o1⟩:=Y;obtain⟨ae,ah,ai,aj⟩:=K;simp only at ae ah ai aj;clear J;rw[Nat.add_mul,←Nat.add_assoc] at ik kr ae ah;have HW:=Kz (And.intro cK cO);have kj:(j:Int)<((xs.length - k:Nat):Int):=by omega
        have xc:(D:Int)<((xs.length - k:Nat):Int):=by have:=U.o;omega
        have x9:(0:Int)≤(D:Int):=by omega
        have gV:IntKind.i64.wrap ((j:Int) - 1)=(D:Int):=by
         have h3:=U.o;rw[show(j:Int) - 1=(D:Int) by omega];exact IntWalk.i64_in _ (by omega)
        clear cK cO ai aj HS
        have HD:=Kz (show B.drop (k+j)=xs.drop (k+j) by
         have h3:=U.o;have h4:=congrArg (List.drop 1) bB.o;rw[List.drop_drop,List.drop_drop] at h4;rw[show k+D+1=k+j by omega] at h4;exact h4)
        have Z:(q0=X∧q1=o1)∨(q0≠X)∨(q0=X∧q1.toList≠o1.toList):=
         (Classical.em (q0=X)).elim (fun t0=>(Classical.em (q1=o1)).elim (fun t1=>.inl ⟨t0,t1⟩) (fun t1=>.inr (.inr ⟨t0,fun e=>t1 (str_inj e)⟩))) (fun t0=>.inr (.inl t0))
        rcases Z with⟨rfl,rfl⟩|e|⟨rfl,e⟩
        ·have o9:=Kz (show xs[k+j]=xs[k+D] by rw[←E1.o,←E2.o,←ax.o,←bg.o])
         go_wp2_with fail
         go_region
         all_goals
          go_wp2_with fail;refine⟨⟨i,j+1,j,B,Kz rfl,uz,by omega,by omega,O,HD,Kz ?_,Kz (I.o.gr gd),Kz (bL.o.gr gd),rfl,by go_num⟩,by simp[intOf];omega⟩;intro o
          rw[bH.o,←Nat.add_assoc,mI ak,o9.o];exact⟨fun h=>.inl h,fun h=>h.elim id fun h=>by rw[h];exact dK cB (by have:=U.o;omega)⟩
        all_goals
         obtain⟨ku,ky,-,-⟩:=I.o.iX bR;have yc:=I.o.kR (i:=i*2) (by omega);have ve:=I.o.kR (i:=i*2+1) (by omega);rw[←Nat.add_assoc] at ve;obtain⟨t0,lq⟩:=nm (B[i].1);obtain⟨t1,oH⟩:=nm (B[i].2);rw[←lq] at ku;rw[←oH] at ky;clear lq oH;go_wp2_with fail
         go_region
         all_goals
          go_wp2_with fail;refine⟨⟨i+1,j+1,j,B.set i (q0,q1),Kz rfl,by omega,by omega,by omega,Kz (by simpa using O.o),Kz ?_,Kz ?_,Kz (SlR.gr ?_ (show Gr ((T.setCell ⟨b,off+i*2,none⟩ (.int .i64 q0)).setCell ⟨b,off+i*2+1,none⟩ (.string q1)) _ from Gr.drew (Gr.refl _))),Kz (Wr.gr ?_ (show Gr ((T.setCell ⟨b,off+i*2,none⟩ (.int .i64 q0)).setCell ⟨b,off+i*2+1,none⟩ (.string q1)) _ from Gr.drew (Gr.refl _))),by go_num,by go_num⟩,by simp[intOf];omega⟩
          ·rw[List.drop_set_of_lt (by omega)];exact HD.o
          ·intro o
           rw[List.take_succ_eq_append_getElem (by simpa using bR),List.take_set_of_le (Nat.le_refl _),List.mem_append,List.mem_singleton,List.getElem_set_self,bH.o,←Nat.add_assoc,mI ak,←E2.o,←ax.o]
          ·obtain⟨cs,fq,-,vB,-,yu,y5,-,-,qb⟩:=I.o.focus uf.o bR
           obtain rfl:fq=[]:=mU nK nI _ _ _ _ vB;have q8:Foc b (off+i*Rd.n av) (Rd.n av) [] T ((T.setCell ⟨b,off+i*2,none⟩ (.int .i64 q0)).setCell ⟨b,off+i*2+1,none⟩ (.string q1)):=((Foc.refl _ _ _ _ _).set (o:=off+i*2) (by show off+i*2≤_;omega) (by show _<off+i*2+2;omega) _).set (o:=off+i*2+1) (by show off+i*2≤_;omega) (by show _<off+i*2+2;omega) _;refine qb _ [.int .i64 q0,.string q1] (q0,q1) q8 (fun m v hm=>?_) (by simpa using bZ q0 q1 HW.o.1 HW.o.2)
           match m,hm with
           |0,hm=>
            obtain rfl:=Option.some.inj hm;have h8:=iY (v:=.int .i64 q0) ku
            show((T.setCell ⟨b,off+i*2,none⟩ (.int .i64 q0)).setCell ⟨b,off+i*2+1,none⟩ (.string q1)).cell? ⟨b,off+i*2,none⟩=_
            rw[jR (b:=b) (o:=off+i*2+1) (o':=off+i*2) (by omega)];exact h8
           |1,hm=>
            obtain rfl:=Option.some.inj hm;have h9:(T.setCell ⟨b,off+i*2,none⟩ (.int .i64 q0)).cell? ⟨b,off+i*2+1,none⟩=some (.string t1):=by rw[jR (b:=b) (o:=off+i*2) (o':=off+i*2+1) (by omega)];exact ky
            exact iY (v:=.string q1) h9
          ·exact((bL.o).setCell (by rw[ay.o];simp) _).setCell (by rw[ay.o];simp) _
       ·have oL:k+j=xs.length:=by omega
        have vD:=Kz oL;have q9:0<xs.length - i:=by omega
        have y7:i≤ca:=by omega
        obtain⟨L,hL⟩:∃L,(Builtin.zeroCells (Value.agg #[.int .i64 0,.string ByteArray.empty]).cells (xs.length - i)).toList=L:=⟨_,rfl⟩;have vF:L.length=(xs.length - i)*2:=by rw[←hL];simp[Builtin.zeroCells,Value.cells]
        have o5:∀v∈L,v.oneCell'=true:=by
         intro v hv
         rw[←hL] at hv;obtain⟨m,hm,rfl⟩:=List.mem_iff_getElem.1 hv;simp only[Builtin.zeroCells,Value.cells,Array.getElem_toList,Array.getElem_map,Array.getElem_range];have V:m % 2=0∨m % 2=1:=by omega
         rcases V with V|V<;>·show(#[Value.int .i64 0,Value.string ByteArray.empty][m % 2]!).oneCell'=true;rw[V];rfl
        have au:=O.o
        have y8:∀ty,(Builtin.clear_ #[254] ty #[.slice (some ⟨b,off+i*2,none⟩) (xs.length - i) (ca - i)]).run Tryz.prog T=.ok (.tuple #[]) (T.setCells b (off+i*2) L):=fun ty=>
         vS T _ 181 ty (.agg #[.int .i64 0,.string ByteArray.empty]) Tryz.underlying254 (fun w=>by first|rfl|kernel_rfl|simp[zeroValue]) b (off+i*2) _ _ q9 L hL o5
          (fun t ht=>by
           have h5:=I.o.iX (i:=i+t / 2) (by omega);have V:t % 2=0∨t % 2=1:=by omega
           rcases V with V|V
           ·rw[show off+i*2+t=off+(i+t / 2)*2 by omega,h5.1];rfl
           ·rw[show off+i*2+t=off+(i+t / 2)*2+1 by omega,h5.2.1];rfl)
          (fun t ht=>by rw[Nat.add_assoc];exact I.o.kR (by omega))
        have kj:¬(j:Int)<((xs.length - k:Nat):Int):=by omega
        have vG:=Kz au;clear hL o5 vF oL au;go_wp2_with fail;go_ret;have au:=vG.o;have sO:(B.take i).length=i:=by simp;omega
        have dB:∀q (hq:q<(B.take i).length),(T.setCells b (off+i*2) L).cell? ⟨b,off+q*2,none⟩=some (.int .i64 (B.take i)[q].1)∧(T.setCells b (off+i*2) L).cell? ⟨b,off+q*2+1,none⟩=some (.string (B.take i)[q].2)∧(Lit.int .i64 (B.take i)[q].1).wf=true∧(B.take i)[q].2.size≤maxLen:=by
         intro q hq
         have h5:=I.o.iX (i:=q) (by omega);rw[List.getElem_take];refine⟨?_,?_,h5.2.2.1,h5.2.2.2⟩
         ·rw[World.cell?_setCells_out b _ _ _ _ (fun _ _=>.inl (by show off+q*2<off+i*2;omega))]
          exact h5.1
         ·rw[World.cell?_setCells_out b _ _ _ _ (fun _ _=>.inl (by show off+q*2+1<off+i*2;omega))]
          exact h5.2.1
        obtain⟨fq,hs,y9⟩:=SlR.EI (cap:=ca) dB (fun j hj=>by rw[World.frozen?_setCells];exact I.o.kR (by omega)) (by omega) (by unfold bn;omega);rw[sO] at hs;refine⟨_,rfl,fq,B.take i,hs,fun o b2=>?_,by omega,Wr.setCells (by rw[ay.o];simp) _ bL.o⟩;rw[bH.o,vD.o,List.take_length]
    all_goals
     go_wp2_with fail
     go_region
     all_goals
      go_wp2_with fail;exact⟨⟨k+1,by omega,by omega,Kz (tg HG),by go_num⟩,by simp[intOf];omega⟩
   ·obtain rfl:k=xs.length:=by omega
    go_wp2_with fail;go_ret;exact⟨_,fp,xs,rfl,HU.o.gr (tg HG),fun o=>Iff.rfl,Nat.le_refl _,(tg HG).eF fp⟩
end Go.Proofs.YtleafadpfeibfaaGreat
