/- Contracts and laws towards ReadsOf, part 35 of 54. No condition. -/
import Derived.Test.YtleafadpfeibfaaGreatRx33
set_option maxHeartbeats 32000000
set_option maxRecDepth 10000
set_option linter.unusedVariables false
set_option linter.unusedSimpArgs false
namespace Go.Proofs.YtleafadpfeibfaaGreat
open Go.RowKit
def pM(a:Nat)(l:List Nat):Nat:=(l.filter fun x=>decide (x=a)).length
theorem j5(a x:Nat):∀(l:List Nat) (k:Nat) (h:k<l.length),pM a (l.set k x)+(if l[k]=a then 1 else 0)=pM a l+(if x=a then 1 else 0)
 |[],k,h=>by simp at h
 |y::l,0,h=>by
  unfold pM;simp only[List.set_cons_zero,List.getElem_cons_zero,List.filter_cons,decide_eq_true_eq]
  split<;>split<;>simp_all<;>omega
 |y::l,k+1,h=>by
  have q:=j5 a x l k (by simpa using h);unfold pM at q ⊢;simp only[List.set_cons_succ,List.getElem_cons_succ,List.filter_cons,decide_eq_true_eq]
  split<;>simp_all<;>omega
theorem vU(a:Nat)(l:List Nat):pM a l≤l.length:=List.length_filter_le _ _
structure OkE(n f:Nat)(s:Eng):Prop where
 free:pM 0 s.st≤f
 emp:∀j,s.st.getD j 0=0→s.reads.getD j []=[]
 len:∀j,(s.reads.getD j []).length≤2000
 mem:∀j,∀k∈s.reads.getD j [],k<n
 stp:s.steps=(pM 2 s.st:Int)
 st2:∀x∈s.st,x≤2
 sl:s.st.length=n
 rl:s.reads.length=n
theorem OkE.mono{n f h:Nat}{s:Eng}(k:OkE n f s)(q:f≤h):OkE n h s:=⟨Nat.le_trans k.free q,k.emp,k.len,k.mem,k.stp,k.st2,k.sl,k.rl⟩
theorem getD_at{α:Type}{l:List α}{k:Nat}{z:α}(h:k<l.length):l.getD k z=l[k]:=by rw[List.getD_eq_getElem?_getD,List.getElem?_eq_getElem h];rfl
theorem sw{α:Type}{l:List α}{k:Nat}{z:α}(h:¬k<l.length):l.getD k z=z:=by rw[List.getD_eq_getElem?_getD,List.getElem?_eq_none (by omega)];rfl
theorem OkE.lt{n f:Nat}{s:Eng}(h:OkE n f s){k:Nat}(hk:s.st.getD k 0≠0):k<n:=by
 by_cases h1:k<s.st.length
 ·rw[←h.sl];exact h1
 ·exact absurd (sw h1) hk
theorem OkE.push{n f:Nat}{s:Eng}(h:OkE n f s){j k:Nat}(D:s.st.getD j 0=1)(hk:k<n)(I:(s.reads.getD j []).length<2000):OkE n f {s with reads:=s.reads.set j (s.reads.getD j []++[k])}:=by
 refine⟨h.free,fun i hi=>?_,fun i=>?_,fun i x q=>?_,h.stp,h.st2,h.sl,by simpa using h.rl⟩
 ·have B:j≠i:=fun e=>by subst e;change s.st.getD j 0=0 at hi;omega
  show(s.reads.set _ _).getD i []=[]
  rw[getD_set_ne _ _ _ B];exact h.emp i hi
 ·show((s.reads.set _ _).getD i []).length≤2000
  rw[oz]
  split
  ·rw[List.length_append,List.length_singleton];omega
  ·exact h.len i
 ·change x∈(s.reads.set _ _).getD i [] at q
  rw[oz] at q
  split at q
  ·rcases List.mem_append.1 q with q|q
   ·exact h.mem _ x q
   ·rw[List.mem_singleton.1 q];exact hk
  ·exact h.mem i x q
theorem OkE.rd{n f:Nat}{s:Eng}(h:OkE n f s){by_ k:Int}(hk:0≤k∧k<n)(hb:by_<0∨(s.busy by_∧(s.reads.getD by_.toNat []).length<2000)):OkE n f (s.rd k by_):=by
 unfold Eng.rd
 split
 ·rcases hb with hb|hb
  ·omega
  ·exact h.push hb.1.2 (by omega) hb.2
 ·exact h
theorem OkE.mark{n f:Nat}{s:Eng}(h:OkE n (f+1) s){k:Nat}(hk:k<n)(J:s.st.getD k 0=0):OkE n f (s.mark k):=by
 have q:k<s.st.length:=by rw[h.sl];exact hk
 have D:s.st[k]=0:=by rw[←getD_at (z:=0) q];exact J
 refine⟨?_,fun i hi=>?_,h.len,h.mem,?_,fun x B=>?_,by show(s.st.set _ _).length=n;rw[List.length_set];exact h.sl,h.rl⟩
 ·have:=j5 0 1 s.st k q
  have:=h.free;rw[if_pos D] at*
  show pM 0 (s.st.set k 1)≤f
  simp at*;omega
 ·have I:k≠i:=fun e=>by
   subst e
   change (s.st.set k 1).getD k 0=0 at hi
   rw[gM _ _ _ q] at hi;exact absurd hi (by decide)
  change (s.st.set k 1).getD i 0=0 at hi
  rw[getD_set_ne _ _ _ I] at hi;exact h.emp i hi
 ·have:=j5 2 1 s.st k q
  rw[D] at this
  show s.steps=(pM 2 (s.st.set k 1):Int)
  rw[h.stp];simp at this;omega
 ·rcases List.mem_or_eq_of_mem_set B with B|rfl
  ·exact h.st2 x B
  ·omega
theorem OkE.done{n f:Nat}{s:Eng}(h:OkE n f s){k:Nat}(h1:s.st.getD k 0=1)(v:Int):OkE n f (s.done k v):=by
 have q:k<s.st.length:=by rw[h.sl];exact h.lt (by omega)
 have D:s.st[k]=1:=by rw[←getD_at (z:=0) q];exact h1
 refine⟨?_,fun i hi=>?_,h.len,h.mem,?_,fun x B=>?_,by show(s.st.set _ _).length=n;rw[List.length_set];exact h.sl,h.rl⟩
 ·have:=j5 0 2 s.st k q
  rw[D] at this;have:=h.free
  show pM 0 (s.st.set k 2)≤f
  simp at*;omega
 ·have I:k≠i:=fun e=>by
   subst e
   change (s.st.set k 2).getD k 0=0 at hi
   rw[gM _ _ _ q] at hi;exact absurd hi (by decide)
  change (s.st.set k 2).getD i 0=0 at hi
  rw[getD_set_ne _ _ _ I] at hi;exact h.emp i hi
 ·have:=j5 2 2 s.st k q
  rw[D] at this
  show s.steps+1=(pM 2 (s.st.set k 2):Int)
  rw[h.stp];simp at this;omega
 ·rcases List.mem_or_eq_of_mem_set B with B|rfl
  ·exact h.st2 x B
  ·omega
variable{d:Nat}
set_option maxRecDepth 100000 in
theorem Cw{fg:List Nat}{cg:Array Value}(g:(af d)){ft:List Nat}{ct:Array Value}(t:fU){fx:List Nat}{cx:Array Value}(x:av)(w:World)(hg:Rd.rd fg w cg.toList g)(ht:Rd.rd ft w ct.toList t)(hx:Rd.rd fx w cx.toList x)(hl:aP g≤1048576):
  Calls Tryz.prog 129 #[.agg cg,.agg ct,.agg cx] w (Found [] w (zV g t x) qW):=by
 have fe:=Kz hl;clear hl;have HG:=Kz hg;obtain⟨g0,g1,ag0,kg0,Mk,ag1,kg1,Ml,rfl,rfl,-,Mm,LU,LV,Mo,LW,LX⟩:=yt hg;clear hg;have HT:=Kz ht;obtain⟨t0,bR,bX,Mq,rfl,rfl,-,fu,LY,zn⟩:=K8 ht;have gD:=fu.op3;clear ht;have HX:=Kz hx;obtain⟨x0,X,rfl,rfl,-,Mr,zx⟩:=K7 hx;clear hx;have zy:=Kz zx;go_in;go_wp2_with fail;refine(su (g0,g1) t0 (x0,X) _ (Rd.gr HG.o gd) (Rd.gr HT.o gd) (Rd.gr HX.o gd) fe.o).mono ?_;rintro e w' ⟨es,fq,rfl,hr,-,z1,rfl⟩;obtain⟨r0,r1,r2,r3,gV,rfl,-,Ms,Mt,Mv⟩:=Ld (x:=(ed (g0,g1) t0 (x0,X)).getD dR) hr;have zH:=Kz gV;have Mw:=Lt gV hr;clear hr gV;obtain⟨bb,bg⟩:∃b:Bool,b=(ed (g0,g1) t0 (x0,X)).isSome:=⟨_,rfl⟩;rw[←bg];have u6:=Kz bg;clear bg;generalize hB:((((w.alloc (.cells #[.slice ag0 g0.length kg0,.slice ag1 g1.length kg1] 39)).alloc (.cells #[.slice bR t0.length bX] 43)).alloc (.cells #[.int .i64 x0,.string X] 45)).alloc (.cells #[.int .i64 0,.int .i64 0,.int .i64 0,.int .i64 0,.int .i64 0,.string ⟨#[]⟩,.string ⟨#[]⟩,.slice none 0 0] 167)).ext z1=B;have gB:Gr w B:=gb hB;obtain⟨ve,zL⟩:=kb2 hB (w.heap.size) (.slice ag0 g0.length kg0) (.slice ag1 g1.length kg1);have gX:=kb hB (w.heap.size+1) 0 (.slice bR t0.length bX);obtain⟨ik,zO⟩:=kb2 hB (w.heap.size+1+1) (.int .i64 x0) (.string X);obtain⟨iw,Mx⟩:=kb2 hB (w.heap.size+2) (.int .i64 x0) (.string X);have EB:=Kz hB;clear hB;have bq:Ky (az B (w.heap.size+1+1+1) 167 [.int .i64 0,.int .i64 0,.int .i64 0,.int .i64 0,.int .i64 0,.string ⟨#[]⟩,.string ⟨#[]⟩,.slice none 0 0]):=Kz (az.gr (w:=(((w.alloc (.cells #[.slice ag0 g0.length kg0,.slice ag1 g1.length kg1] 39)).alloc (.cells #[.slice bR t0.length bX] 43)).alloc (.cells #[.int .i64 x0,.string X] 45)).alloc (.cells #[.int .i64 0,.int .i64 0,.int .i64 0,.int .i64 0,.int .i64 0,.string ⟨#[]⟩,.string ⟨#[]⟩,.slice none 0 0] 167)) (by unfold az;simpa using heap_alloc_new (((w.alloc (.cells #[.slice ag0 g0.length kg0,.slice ag1 g1.length kg1] 39)).alloc (.cells #[.slice bR t0.length bX] 43)).alloc (.cells #[.int .i64 x0,.string X] 45)) (.cells #[.int .i64 0,.int .i64 0,.int .i64 0,.int .i64 0,.int .i64 0,.string ⟨#[]⟩,.string ⟨#[]⟩,.slice none 0 0] 167)) (by rw[←EB.o];exact gd));have y2:=gX _ (Gr.refl _);have y3:=ik _ (Gr.refl _);have y5:=iw _ (Gr.refl _);have cB:=blk y2;have cK:=blk y3;go_wp2_with fail;clear y2 y3 y5 cB cK;generalize hC:B.alloc (.cells #[.string r0,.int .i64 r1,.int .i64 r2,.bool r3] 144)=C;have kr:Gr B C:=gb hC;have vB:C.cell? ⟨B.heap.size,2,none⟩=some (.int .i64 r2):=by rw[←hC];exact kd
 clear hC;refine(iI t0 x0 _ (Rd.gr HT.o (gB.trans kr))).mono ?_;rintro e W6 ⟨rfl,g6⟩;have gT:=kr.trans g6;have zo:=g6.keep vB;clear vB g6 kr;have y0:=ve _ gT;have y2:=gX _ gT;have y3:=ik _ gT;have y5:=iw _ gT;have cB:=blk y2;have cK:=blk y3;obtain⟨O,hO⟩:=nm (dQ t0 x0);rw[←hO];have HO:=Kz hO;have ae:=Kz (gB.trans gT);clear hO
 cases bb with
 |false=>
  have ah:zV (g0,g1) t0 (x0,X)=none:=wG (iK u6.o.symm);have vR:=az.gr bq.o (gT);obtain⟨q,D,I,J,K,T,U,V⟩:=vR.c8;have aj:=vR.frozen;have ku:=blk q;have ak:=Kz vR;clear vR;have ai:=Kz ah;clear ah;go_wp2_with fail;clear q D I J K T U V aj;generalize Z:((((((((W6.setCell ⟨w.heap.size+1+1+1,0,none⟩ (.int .i64 0)).setCell ⟨w.heap.size+1+1+1,1,none⟩ (.int .i64 0)).setCell ⟨w.heap.size+1+1+1,2,none⟩ (.int .i64 0)).setCell ⟨w.heap.size+1+1+1,3,none⟩ (.int .i64 0)).setCell ⟨w.heap.size+1+1+1,4,none⟩ (.int .i64 0)).setCell ⟨w.heap.size+1+1+1,5,none⟩ (.string ⟨#[]⟩)).setCell ⟨w.heap.size+1+1+1,6,none⟩ (.string ⟨#[]⟩)).setCell ⟨w.heap.size+1+1+1,7,none⟩ (.slice none 0 0))=WF;have vF:az WF (w.heap.size+1+1+1) 167 [.int .i64 0,.int .i64 0,.int .i64 0,.int .i64 0,.int .i64 0,.string ⟨#[]⟩,.string ⟨#[]⟩,.slice none 0 0]:=by rw[←Z];exact(az.ic ak.o _ _ _ _ _ _ _ _).gr (Gr.refl _)
  have wF:Wr [w.heap.size+1+1+1] W6 WF:=by rw[←Z];exact(Wr.ic _ _ _ _ _ _ _ _ _ _).gr (Gr.refl _)
  have gF:Gr w WF:=by rw[←Z];exact(Gr.ic ae.o (by omega) _ _ _ _ _ _ _ _).trans (Gr.refl _)
  obtain⟨q,D,I,J,K,T,U,V⟩:=vF.c8;clear Z vF
  exact bodyPost_ret (v:=.tuple #[.agg #[.int .i64 0,.int .i64 0,.int .i64 0,.int .i64 0,.int .i64 0,.string ⟨#[]⟩,.string ⟨#[]⟩,.slice none 0 0],.bool false])
   (by simp[results,Tryz.results129,go_sem,q,D,I,J,K,T,U,V]) rfl ⟨_,_,by rw[ai.o];rfl,by rw[ai.o];exact ja _,by simp,gF⟩
 |true=>
  have ax:ed (g0,g1) t0 (x0,X)=some (r0,r1,r2,r3):=jw u6.o.symm zH.o.symm
  by_cases ky:r2=3
  ·have ah:zV (g0,g1) t0 (x0,X)=none:=wV ax ky
   subst ky;clear ax;have vR:=az.gr bq.o (gT);obtain⟨q,D,I,J,K,T,U,V⟩:=vR.c8;have aj:=vR.frozen;have ku:=blk q;have ak:=Kz vR;clear vR;have ai:=Kz ah;clear ah;go_wp2_with fail;clear q D I J K T U V aj;generalize Z:((((((((W6.setCell ⟨w.heap.size+1+1+1,0,none⟩ (.int .i64 0)).setCell ⟨w.heap.size+1+1+1,1,none⟩ (.int .i64 0)).setCell ⟨w.heap.size+1+1+1,2,none⟩ (.int .i64 0)).setCell ⟨w.heap.size+1+1+1,3,none⟩ (.int .i64 0)).setCell ⟨w.heap.size+1+1+1,4,none⟩ (.int .i64 0)).setCell ⟨w.heap.size+1+1+1,5,none⟩ (.string ⟨#[]⟩)).setCell ⟨w.heap.size+1+1+1,6,none⟩ (.string ⟨#[]⟩)).setCell ⟨w.heap.size+1+1+1,7,none⟩ (.slice none 0 0))=WF;have vF:az WF (w.heap.size+1+1+1) 167 [.int .i64 0,.int .i64 0,.int .i64 0,.int .i64 0,.int .i64 0,.string ⟨#[]⟩,.string ⟨#[]⟩,.slice none 0 0]:=by rw[←Z];exact(az.ic ak.o _ _ _ _ _ _ _ _).gr (Gr.refl _)
   have wF:Wr [w.heap.size+1+1+1] W6 WF:=by rw[←Z];exact(Wr.ic _ _ _ _ _ _ _ _ _ _).gr (Gr.refl _)
   have gF:Gr w WF:=by rw[←Z];exact(Gr.ic ae.o (by omega) _ _ _ _ _ _ _ _).trans (Gr.refl _)
   obtain⟨q,D,I,J,K,T,U,V⟩:=vF.c8;clear Z vF
   exact bodyPost_ret (v:=.tuple #[.agg #[.int .i64 0,.int .i64 0,.int .i64 0,.int .i64 0,.int .i64 0,.string ⟨#[]⟩,.string ⟨#[]⟩,.slice none 0 0],.bool false])
    (by simp[results,Tryz.results129,go_sem,q,D,I,J,K,T,U,V]) rfl ⟨_,_,by rw[ai.o];rfl,by rw[ai.o];exact ja _,by simp,gF⟩
  ·go_upto_if 39 with fail
   go_cut [11,12] (fun z8 A7 wr=>∃OZ PZ,z8=.int .i64 OZ∧A7=.int .i64 PZ∧Ky (zV (g0,g1) t0 (x0,X)=KL (g0,g1) t0 OZ PZ X)∧Ky ((Lit.int .i64 PZ).wf=true)∧Ky (Gr W6 wr))
   case first=>
    by_cases vD:r2=1
    ·subst vD
     obtain⟨n,hn,vG⟩:=Fe ax;have HN:=Kz hn;have BM:=Kz ax;have E5:O=n:=HO.o.trans hn;subst E5;clear ax hn;have aZ:=vG;have cO:=gB.trans gT;obtain⟨b,off,rfl,bg⟩:=gD n aZ;obtain⟨q0,q1,q2,q3,q4,q5,MB,MC,ME,MF,FX,MG,MH,MI,F4,MJ,MK,ML,LZ,L6,MM,MN,MO,MP,MQ,MR,MS⟩:=KZ fu aZ cO;have j0:(0:Int)≤(n:Int):=by omega
     have j1:(n:Int)<(t0.length:Int):=by omega
     have au:zV (g0,g1) t0 (x0,X)=KL (g0,g1) t0 q1 q2 X:=by
      have h1:=zw BM.o rfl HN.o vG;rw[←FX.o] at h1;exact h1
     have bB:=Kz F4;go_wp2_with fail;go_meet;exact⟨q1,q2,rfl,rfl,Kz au,bB,Kz gd⟩
    ·have au:zV (g0,g1) t0 (x0,X)=KL (g0,g1) t0 O 0 X:=by rw[HO.o];exact zQ ax ky vD
     have bB:=Kz (show(Lit.int .i64 0).wf=true by decide);go_wp2_with fail;go_meet;exact⟨O,0,rfl,rfl,Kz au,bB,Kz gd⟩
   case rest=>
    clear ax y0 y2 y3 y5 ae cB cK zo;obtain⟨OZ,PZ,rfl,rfl,F5,bB,F6⟩:=hcut
    rename World=>W7
    have au:=F5.o;replace gT:=gT.trans F6.o;have ae:=Kz (gB.trans gT);have y0:=ve _ gT;have y1:=zL _ gT;have y2:=gX _ gT;have y3:=ik _ gT;have y4:=zO _ gT;have y5:=iw _ gT;have cB:=blk y2;have cK:=blk y3
    by_cases lq:0≤OZ∧OZ≤(t0.length:Int) - 1
    ·obtain⟨m,rfl⟩:∃m:Nat,OZ=m:=⟨OZ.toNat,by omega⟩
     have aZ:m<t0.length:=by omega
     have vL:=Kz au;have vO:=Kz lq;clear au lq;have cO:=ae.o;obtain⟨b,off,rfl,bg⟩:=gD m aZ;obtain⟨p0,p1,p2,p3,p4,p5,MU,MV,MW,MX,F8,MZ,M0,M3,M4,M5,M6,M7,L8,L9,Ha,He,HV,HY,vX,HZ,M8⟩:=KZ fu aZ cO;have j0:(0:Int)≤(m:Int):=by omega
     have j1:(m:Int)<(t0.length:Int):=by omega
     obtain⟨Y,hY⟩:=nm ((dJ g1 p4).getD fH);have wL:=oF (g:=(g0,g1)) (p:=PZ) (n:=X) (y:=Y) aZ (by rw[←F8.o];exact hY);have w9:bF Y≤1048576:=by rw[hY];exact wh fe.o p4
     have xc:=Kz wL;have H5:=Kz w9;have IV:=Kz hY;clear hY wL w9 cO;go_wp2_with fail;refine(fJ (m:Int) 0 _ _ vO.o.1 vO.o.2).mono ?_;rintro e W8 ⟨rfl,g8⟩;go_wp2_with fail;have u0:=g8.keep y0;have u1:=g8.keep y1;have u2:=g8.keep y2;have u3:=g8.keep y3;have u4:=g8.keep y4;have uq:=g8.keep vX;have x9:=Kz (ae.o.trans g8);have KX:=Kz (gT.trans g8);have M9:=blk u3;have k0:=fun(w':World) (h:Gr W8 w')=>(⟨h.keep u0,h.keep u1,h.keep u2,h.keep uq⟩:_∧_∧_∧_)
     clear y0 y1 y2 y3 y4 y5 Ha He HV HY vX HZ g8
     go_cut [13] (fun s wr=>EP W8 Y s wr)
     case first=>
      go_region_held3 (fun w'=>Gr W8 w') (exact ga)
       (first|(go_at_call 97;refine(iM (g0,g1) p4 _ (Rd.gr HG.o (x9.o.trans ga)) fe.o).mono ?_;rintro e w' ⟨es,fq,rfl,hr,dB,x2,rfl⟩;obtain⟨s0,s1,s2,s3,s4,s5,K3,K4,K6,La,Li,Lj,Lm,Ls,Lv,oH,rfl,-,yc,yu,y7,Ma,Mc,y8,Md,Me,y9,Mf,Mg⟩:=KV (x:=(dJ g1 p4).getD fH) hr;have Lx:=Kz oH;have dS:=Lt oH hr;clear hr oH;obtain⟨b2,oL⟩:∃b:Bool,b=(dJ g1 p4).isSome:=⟨_,rfl⟩;rw[←oL];have Na:=Kz oL;clear oL))
      all_goals
       go_wp2_with fail;go_meet;have hY:Y=(s0,s1,s2,s3,s4,s5):=IV.o.trans Lx.o.symm;subst hY;have o5:∀c∈fq,c<w.heap.size∨_≤c:=fun c hc=>(dB c hc).imp (Rd.lt HG.o c) id
       refine⟨_,[.string s0,.string s1,.slice K3 s2.length K4,.bool s3,.slice La s4.length Li,.slice Lm s5.length Ls],fq,rfl,gd,fun j u hj=>?_,?_,by first|omega|(simp;done)|(simp;omega)⟩
       ·match j,hj with
        |0,hj=>obtain rfl:=Option.some.inj hj;exact kd
        |1,hj=>obtain rfl:=Option.some.inj hj;exact kd
        |2,hj=>obtain rfl:=Option.some.inj hj;exact kd
        |3,hj=>obtain rfl:=Option.some.inj hj;exact kd
        |4,hj=>obtain rfl:=Option.some.inj hj;exact kd
        |5,hj=>obtain rfl:=Option.some.inj hj;exact kd
       ·first
         |(refine Rd.gr dS.o ?_;(repeat(first|exact Gr.refl _|apply Gr.ext|apply Gr.alloc|apply Gr.drew));done)
         |((with_reducible refine Rd.mono (dO ?_) dS.o);exact fun c hc e=>by subst e;have:=o5 _ hc;simp at this;omega)
         |((with_reducible refine Rd.mono (dM ?_) dS.o);exact fun c hc e=>by subst e;have:=o5 _ hc;simp at this;omega)
         |((with_reducible refine Rd.mono (iT ?_) dS.o);exact fun c hc e=>by subst e;have:=o5 _ hc;simp at this;omega)
     case rest=>
      obtain⟨Nb,zq,f12,rfl,g9,ay,o9,Mh⟩:=hcut
      rename World=>W9
      obtain⟨s0,s1,s2,s3,s4,s5⟩:=Y;obtain⟨Nc,K6,Nf,Lj,Ng,Lv,za,-,yc,yu,y7,y8,y9⟩:=aM (cs:=zq.toArray) s0 s1 s2 s3 s4 s5 (by simpa using o9);obtain rfl:=toL za;have LA:=Kz o9;have c0:=ay 0 _ rfl;have c1:=ay 1 _ rfl;have c2:=ay 2 _ rfl;have c3:=ay 3 _ rfl;have c4:=ay 4 _ rfl;have c5:=ay 5 _ rfl;have Nh:=blk c0;have v4:=g9.keep u4;have qb:=Kz (x9.o.trans g9);have zb:=Kz (KX.o.trans g9);have LB:=Kz (az.gr bq.o zb.o).lt;clear ay o9 za k0 u0 u1 u2 u3 u4 uq g9 yc yu y7 y8 y9;go_wp2_with fail;refine(lQ (s0,s1,s2,s3,s4,s5) (PZ,X) _ (Rd.gr LA.o gd) (bO PZ X bB.o zy.o) H5.o).mono ?_;rintro e dV ⟨es,fq,rfl,hr,dB,g10⟩;obtain⟨e0,e1,e2,e3,e4,e5,e6,bH,bL,Ni,q8,rfl,ze,LC,LD,LF,LG,LH,LJ,zf,Mi,Mj⟩:=KU (x:=(il s4 (PZ,X)).getD ng) hr;have LK:=Kz q8;have Nj:=Lt q8 hr;clear hr q8;obtain⟨b3,q9⟩:∃b:Bool,b=(il s4 (PZ,X)).isSome:=⟨_,rfl⟩;rw[←q9];have zg:=Kz q9;clear q9;have sO:=Kz (qb.o.trans g10);have zu:=Kz (zb.o.trans g10);have vR:=az.gr bq.o (zu.o);obtain⟨q,D,I,J,K,T,U,V⟩:=vR.c8;have aj:=vR.frozen;have ku:=blk q;have ak:=Kz vR;clear vR;clear g10
      cases b3 with
      |false=>
       have ah:zV (g0,g1) t0 (x0,X)=none:=by rw[vL.o,xc.o,iK zg.o.symm];rfl
       have ae:=sO;have ai:=Kz ah;clear ah;go_wp2_with fail;clear q D I J K T U V aj;generalize Z:(((((((((dV.setCell ⟨w.heap.size+1+1+1,0,none⟩ (.int .i64 0)).setCell ⟨w.heap.size+1+1+1,1,none⟩ (.int .i64 0)).setCell ⟨w.heap.size+1+1+1,2,none⟩ (.int .i64 0)).setCell ⟨w.heap.size+1+1+1,3,none⟩ (.int .i64 0)).setCell ⟨w.heap.size+1+1+1,4,none⟩ (.int .i64 0)).setCell ⟨w.heap.size+1+1+1,5,none⟩ (.string ⟨#[]⟩)).setCell ⟨w.heap.size+1+1+1,6,none⟩ (.string ⟨#[]⟩)).setCell ⟨w.heap.size+1+1+1,7,none⟩ (.slice none 0 0)).alloc (.cells #[.int .i64 e0,.int .i64 e1,.int .i64 e2,.int .i64 e3,.string e4,.string e5,.slice bH e6.length bL] 165))=WF;have vF:az WF (w.heap.size+1+1+1) 167 [.int .i64 0,.int .i64 0,.int .i64 0,.int .i64 0,.int .i64 0,.string ⟨#[]⟩,.string ⟨#[]⟩,.slice none 0 0]:=by rw[←Z];exact(az.ic ak.o _ _ _ _ _ _ _ _).gr (Gr.alloc (Gr.refl _) _)
       have wF:Wr [w.heap.size+1+1+1] dV WF:=by rw[←Z];exact(Wr.ic _ _ _ _ _ _ _ _ _ _).gr (Gr.alloc (Gr.refl _) _)
       have gF:Gr w WF:=by rw[←Z];exact(Gr.ic ae.o (by omega) _ _ _ _ _ _ _ _).trans (Gr.alloc (Gr.refl _) _)
       obtain⟨q,D,I,J,K,T,U,V⟩:=vF.c8;clear Z vF
       exact bodyPost_ret (v:=.tuple #[.agg #[.int .i64 0,.int .i64 0,.int .i64 0,.int .i64 0,.int .i64 0,.string ⟨#[]⟩,.string ⟨#[]⟩,.slice none 0 0],.bool false])
        (by simp[results,Tryz.results129,go_sem,q,D,I,J,K,T,U,V]) rfl ⟨_,_,by rw[ai.o];rfl,by rw[ai.o];exact ja _,by simp,gF⟩
      |true=>
       have uf:zV (g0,g1) t0 (x0,X)=some ((m:Int),(e0,e1,e2,e3,e4,e5,e6)):=by rw[vL.o,xc.o,jw zg.o.symm LK.o.symm];rfl
       have uo:=Kz uf;have HM:=Kz (jm (y:=(m:Int)) (by omega) (by have:=zn;omega));have zl:=Kz dB;clear uf dB;have ae:=sO;have LM:=Kz zf;clear zf;go_wp2_with fail;clear q D I J K T U V aj;generalize Z:(((((((((dV.setCell ⟨w.heap.size+1+1+1,0,none⟩ (.int .i64 m)).setCell ⟨w.heap.size+1+1+1,1,none⟩ (.int .i64 e0)).setCell ⟨w.heap.size+1+1+1,2,none⟩ (.int .i64 e1)).setCell ⟨w.heap.size+1+1+1,3,none⟩ (.int .i64 e2)).setCell ⟨w.heap.size+1+1+1,4,none⟩ (.int .i64 e3)).setCell ⟨w.heap.size+1+1+1,5,none⟩ (.string e4)).setCell ⟨w.heap.size+1+1+1,6,none⟩ (.string e5)).setCell ⟨w.heap.size+1+1+1,7,none⟩ (.slice bH e6.length bL)).alloc (.cells #[.int .i64 e0,.int .i64 e1,.int .i64 e2,.int .i64 e3,.string e4,.string e5,.slice bH e6.length bL] 165))=WF;have vF:az WF (w.heap.size+1+1+1) 167 [.int .i64 m,.int .i64 e0,.int .i64 e1,.int .i64 e2,.int .i64 e3,.string e4,.string e5,.slice bH e6.length bL]:=by rw[←Z];exact(az.ic ak.o _ _ _ _ _ _ _ _).gr (Gr.alloc (Gr.refl _) _)
       have wF:Wr [w.heap.size+1+1+1] dV WF:=by rw[←Z];exact(Wr.ic _ _ _ _ _ _ _ _ _ _).gr (Gr.alloc (Gr.refl _) _)
       have gF:Gr w WF:=by rw[←Z];exact(Gr.ic ae.o (by omega) _ _ _ _ _ _ _ _).trans (Gr.alloc (Gr.refl _) _)
       obtain⟨q,D,I,J,K,T,U,V⟩:=vF.c8;clear Z vF;have LP:=(LM.o.wr wF (fun c hc hm=>by have:=(zl.o c (by rw[ze.o];simpa using hc)).resolve_left (by simp);have:=qb.o.size;have:=LB.o;simp at hm;omega))
       exact bodyPost_ret (v:=.tuple #[.agg #[.int .i64 m,.int .i64 e0,.int .i64 e1,.int .i64 e2,.int .i64 e3,.string e4,.string e5,.slice bH e6.length bL],.bool true])
        (by simp[results,Tryz.results129,go_sem,q,D,I,J,K,T,U,V]) rfl ⟨_,_,by rw[uo.o];rfl,by rw[uo.o];exact iZ (m:Int) e0 e1 e2 e3 e4 e5 e6 HM.o LC LD LF LG LH LJ LP,fun c hc=>.inr (by have:=(zl.o c (by rw[ze.o];simpa using hc)).resolve_left (by simp);have:=qb.o.size;omega),gF⟩
    ·have uz:OZ<0∨(t0.length:Int) - 1<OZ:=by omega
     have ah:zV (g0,g1) t0 (x0,X)=none:=by rw[au,mQ uz]
     have LQ:=Kz uz;clear au uz lq;go_wp2_with fail;refine(eu OZ 0 _ _ LQ.o).mono ?_;rintro e W8 ⟨rfl,g8⟩;have ae:=Kz (ae.o.trans g8);have vR:=az.gr bq.o (gT.trans g8);obtain⟨q,D,I,J,K,T,U,V⟩:=vR.c8;have aj:=vR.frozen;have ku:=blk q;have ak:=Kz vR;clear vR;clear g8;have ai:=Kz ah;clear ah;go_wp2_with fail;clear q D I J K T U V aj;generalize Z:((((((((W8.setCell ⟨w.heap.size+1+1+1,0,none⟩ (.int .i64 0)).setCell ⟨w.heap.size+1+1+1,1,none⟩ (.int .i64 0)).setCell ⟨w.heap.size+1+1+1,2,none⟩ (.int .i64 0)).setCell ⟨w.heap.size+1+1+1,3,none⟩ (.int .i64 0)).setCell ⟨w.heap.size+1+1+1,4,none⟩ (.int .i64 0)).setCell ⟨w.heap.size+1+1+1,5,none⟩ (.string ⟨#[]⟩)).setCell ⟨w.heap.size+1+1+1,6,none⟩ (.string ⟨#[]⟩)).setCell ⟨w.heap.size+1+1+1,7,none⟩ (.slice none 0 0))=WF;have vF:az WF (w.heap.size+1+1+1) 167 [.int .i64 0,.int .i64 0,.int .i64 0,.int .i64 0,.int .i64 0,.string ⟨#[]⟩,.string ⟨#[]⟩,.slice none 0 0]:=by rw[←Z];exact(az.ic ak.o _ _ _ _ _ _ _ _).gr (Gr.refl _)
     have wF:Wr [w.heap.size+1+1+1] W8 WF:=by rw[←Z];exact(Wr.ic _ _ _ _ _ _ _ _ _ _).gr (Gr.refl _)
     have gF:Gr w WF:=by rw[←Z];exact(Gr.ic ae.o (by omega) _ _ _ _ _ _ _ _).trans (Gr.refl _)
     obtain⟨q,D,I,J,K,T,U,V⟩:=vF.c8;clear Z vF
     exact bodyPost_ret (v:=.tuple #[.agg #[.int .i64 0,.int .i64 0,.int .i64 0,.int .i64 0,.int .i64 0,.string ⟨#[]⟩,.string ⟨#[]⟩,.slice none 0 0],.bool false])
      (by simp[results,Tryz.results129,go_sem,q,D,I,J,K,T,U,V]) rfl ⟨_,_,by rw[ai.o];rfl,by rw[ai.o];exact ja _,by simp,gF⟩
theorem CO(o a b:Int)(w:World):Qz 148 #[.int .i64 o,.int .i64 a,.int .i64 b] w (.int .i64 (opV o a b)):=by
 obtain⟨x,h⟩:=nm (mY a (opT o).1);obtain⟨y,q⟩:=nm (mY b (opT o).2.1);have B:=Kz h;have D:=Kz q;clear h q;delta Qz;go_in;go_wp2_with fail;refine(uO _ _).mono ?_;rintro e w' ⟨rfl,I,rfl⟩;go_wp2_with fail;refine(lU _ _ _).mono ?_;rintro e w' ⟨rfl,J,rfl⟩;rw[←B.o];go_wp2_with fail;refine(lU _ _ _).mono ?_;rintro e w' ⟨rfl,K,rfl⟩;rw[←D.o]
 go_wp2_with (first|(go_at_call 186;refine(ug _ _).mono ?_;rintro e w' ⟨rfl,rfl⟩)|(go_at_call 205;refine(mV _ _ _).mono ?_;rintro e w' ⟨rfl,rfl⟩)|(go_at_call 206;refine(tO _ _ _).mono ?_;rintro e w' ⟨rfl,rfl⟩)|(go_at_call 187;refine(qP _ _).mono ?_;rintro e w' ⟨rfl,rfl⟩)|(go_at_call 137;refine(di _ _ _ _).mono ?_;rintro e w' ⟨rfl,rfl⟩))
 go_ways
 all_goals
  go_ret;refine⟨aC ?_,gd⟩;rw[show opV o a b=opW o x y by unfold opV;rw[B.o,D.o]];unfold opW;simp only[beq_iff_eq,beq_eq_false_iff_ne] at*
  first|(simp_all;done)|(simp_all;omega)|(have hm:max y 0=y:=(by omega);simp only[hm] at*;simp_all;done)
end Go.Proofs.YtleafadpfeibfaaGreat
