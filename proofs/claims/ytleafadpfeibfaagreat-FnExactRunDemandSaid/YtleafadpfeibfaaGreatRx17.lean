/- Contracts and laws towards ReadsOf, part 16 of 54. No condition. -/
import Derived.Test.YtleafadpfeibfaaGreatRx15
import Derived.Deep.DeepCutAuto
set_option maxHeartbeats 32000000
set_option maxRecDepth 10000
set_option linter.unusedVariables false
set_option linter.unusedSimpArgs false
namespace Go.Proofs.YtleafadpfeibfaaGreat
open Go.RowKit
open _root_.Nat (le_refl le_trans)
variable{d:Nat}
theorem Tryz.Iq:(Tryz.prog.info? 183).map (fun i=>(i.zero,i.size,i.bytes))=some (some (.agg #[.int .i64 0,.string ByteArray.empty,.int .i64 0,.int .i64 0,.int .i64 0,.int .i64 0,.string ByteArray.empty,.string ByteArray.empty,.slice none 0 0]),9,112):=by kernel_rfl
theorem Tryz.Gf:(Tryz.prog.info? 186).map (fun i=>(i.zero,i.size,i.bytes))=some (some (.agg #[.string ByteArray.empty,.string ByteArray.empty,.int .i64 0,.int .i64 0,.int .i64 0,.int .i64 0,.string ByteArray.empty,.string ByteArray.empty,.slice none 0 0,.int .i64 0,.int .i64 0,.int .i64 0,.int .i64 0,.string ByteArray.empty,.string ByteArray.empty,.slice none 0 0]),16,208):=by kernel_rfl
theorem Tryz.Gi:(Tryz.prog.info? 9).map (fun i=>(i.zero,i.size,i.bytes))=some (some (.string ByteArray.empty),1,16):=by kernel_rfl
def JD(B:World)(T:TypeId)(n l:ByteArray)(xs:List ByteArray)(lit:Bool)(s:Value)(wr:World):Prop:=
 ∃h a c fq,s=.pointer (some ⟨h,0,none⟩)∧az wr h T [.string n,.string l,.slice a xs.length c,.bool lit,.slice none 0 0,.slice none 0 0]∧SlR fq wr (.slice a xs.length c) xs∧aY B fq∧Gr B wr∧B.heap.size≤h∧h∉fq
set_option maxRecDepth 100000 in
theorem DK{fx:List Nat}{cx:Array Value}(x:(aW d))(w:World)(hx:Rd.rd fx w cx.toList x)(hl:bF x≤1048576):
  Calls Tryz.prog 126 #[.agg cx] w (Made w x):=by
 obtain⟨x0,x1,O,x3,D,J,LK,LM,NC,LP,LQ,ND,LU,LV,NF,rfl,rfl,-,LW,LX,vL,Ni,Nj,LY,Nk,Nl,LZ,Nn,Np⟩:=KV hx;have vO:=LY.op3;have vR:=LZ.op3;clear hx
 have hw:cu O≤1048576∧cz D≤1048576∧df J≤1048576:=by
  have h:x0.size+x1.size+cu O+cz D+df J≤1048576:=hl;omega
 have vX:O.length≤1048576:=le_trans (bT ByteArray.size O) hw.1;have NG:D.length≤1048576:=le_trans (bT aU D) hw.2.1;have NH:J.length≤1048576:=le_trans (bT aI J) hw.2.2;have L6:=Kz hw;have H0:=Kz (And.intro LW LX);obtain⟨i0,hi⟩:=info_parts Tryz.Gi;have HZ:=Kz hi;clear hi;obtain⟨i1,hi⟩:=info_parts Tryz.Iq;have q9:=Kz hi;clear hi;obtain⟨i2,hi,L8,L9,Ma⟩:=info_parts Tryz.Gf;have uf:=Kz (And.intro hi (And.intro L8 (And.intro L9 Ma)));clear hi L8 L9 Ma hl hw LW LX;go_in;go_wp2_with fail;generalize hB:((w.alloc (.cells #[.string x0,.string x1,.slice LK O.length LM,.bool x3,.slice LP D.length LQ,.slice LU J.length LV] 128)).alloc (.cells #[.string ⟨#[]⟩,.string ⟨#[]⟩,.slice none 0 0,.bool false,.slice none 0 0,.slice none 0 0] 128))=B;have V:Gr w B:=gb hB;obtain⟨NI,NJ,NK,NL,MB,MC⟩:=kb6 hB (w.heap.size) (.string x0) (.string x1) (.slice LK O.length LM) (.bool x3) (.slice LP D.length LQ) (.slice LU J.length LV);have sB:B.heap.size=w.heap.size+2:=szB hB;have EB:=Kz hB;clear hB
 go_cut [3] (fun s3 wr=>JD B 128 x0 x1 O x3 s3 wr)
 case first=>
  refine eB (fun w'=>Gr B w') 12 (by kernel_rfl) (Gr.drew (Gr.refl _)) (fun hU=>?_)
  refine aN 0 ?_
  refine aN 2 ?_
  refine aN 4 ?_
  refine aN 7 ?_
  refine aN 1 ?_
  refine aN 3 ?_
  refine aN 5 ?_
  refine aN 8 ?_
  refine dw [6,11] ?_
  refine(bf.cons rfl (fun K q=>?_) (bf.cons rfl (fun K q=>?_) bf.nil))
  ·skip
   go_simp;refine q.out _ _ gd (fun wF=>?_);clear q K
   try simp only[Act.put,uq1,uq2,uq3]
   refine dw [9,11] ?_
   refine(bf.cons rfl (fun K q=>?_) (bf.cons rfl (fun K q=>?_) bf.nil))
   ·skip
    refine nD (w:=B) nI gd (by rfl) _ _ _ (by rfl) 9 i0 _ _ Tryz.underlying108 HZ.o.1 HZ.o.2.1 HZ.o.2.2.1 HZ.o.2.2.2 rfl _ (by rfl) (by first|exact(bE.kF (w0:=B) (w:=B) 9 (le_refl _) (by omega)).gr gd|exact(bE.kF (w0:=B) (w:=B.alloc _) 9 (by simp) (by simp;omega)).gr gd) (by intro h;cases h) _ O (by rfl) (vL.gr (V.trans gd)) vX (by omega) ?_
    intro b c fq y hs U hg hb bX cB
    have HS:=Kz hs;have X:=Kz U;have uo:=Kz cB;have uq:=Kz bX;clear hs U cB bX;refine q.out _ _ hg (fun uz=>?_);clear q K
    try simp only[Act.put,uq1,uq2,uq3]
    refine aN 10 ?_
    refine dw [11] ?_
    refine(bf.cons rfl (fun K q=>?_) bf.nil);go_simp;refine q.out _ _ gd (fun u6=>?_);clear q K
    try simp only[Act.put,uq1,uq2,uq3]
    refine dw [12] ?_
    refine bf.last rfl (fun K q=>?_)
    go_simp;refine q.out _ _ ?_;clear q K
    try simp only[Act.put,uq1,uq2,uq3]
    refine fF (by kernel_rfl) ?_ _
    go_wp2_with fail;go_meet;refine⟨_,_,_,fq,rfl,?_,HS.o.gr gd,X.o,gd,by omega,fun hm=>by have:=HS.o.lt _ hm;simp at this;omega⟩;unfold az;rw[show w.heap.size+2+y.objs.size=(B.ext y).heap.size by simp;omega];exact heap_alloc_new _ _
   ·skip
    go_simp;refine q.out _ _ gd (fun u6=>?_);clear q K
    try simp only[Act.put,uq1,uq2,uq3]
    refine dw [9] ?_
    refine(bf.cons rfl (fun K q=>?_) bf.nil);refine nD (w:=B) nI gd (by rfl) _ _ _ (by rfl) 9 i0 _ _ Tryz.underlying108 HZ.o.1 HZ.o.2.1 HZ.o.2.2.1 HZ.o.2.2.2 rfl _ (by rfl) (by first|exact(bE.kF (w0:=B) (w:=B) 9 (le_refl _) (by omega)).gr gd|exact(bE.kF (w0:=B) (w:=B.alloc _) 9 (by simp) (by simp;omega)).gr gd) (by intro h;cases h) _ O (by rfl) (vL.gr (V.trans gd)) vX (by omega) ?_;intro b c fq y hs U hg hb bX cB
    have HS:=Kz hs;have X:=Kz U;have uo:=Kz cB;have uq:=Kz bX;clear hs U cB bX;refine q.out _ _ hg (fun uz=>?_);clear q K
    try simp only[Act.put,uq1,uq2,uq3]
    refine aN 10 ?_
    refine dw [12] ?_
    refine bf.last rfl (fun K q=>?_)
    have kO:az (B.ext y) (w.heap.size+2+1) 128 [.string ⟨#[]⟩,.string ⟨#[]⟩,.slice none 0 0,.bool false,.slice none 0 0,.slice none 0 0]:=by
     have q8:Wr [w.heap.size+2] _ (B.ext y):=uq.o;refine az.wr ?_ q8 (by simp);unfold az
     show((B.alloc (.cells #[] 9)).alloc _).heap[_]?=_;rw[show w.heap.size+2+1=(B.alloc (.cells #[] 9)).heap.size by simp;omega];exact heap_alloc_new _ _
    have kr:∀c∈fq,w.heap.size+2=c∨((B.alloc (.cells #[] 9)).alloc (.cells #[.string ⟨#[]⟩,.string ⟨#[]⟩,.slice none 0 0,.bool false,.slice none 0 0,.slice none 0 0] 128)).drew.heap.size≤c:=fun c hc=>(uo.o c hc).imp (fun h=>ownB h) id
    have cK:w.heap.size+2+1∉fq:=fun hm=>by have:=kr _ hm;simp at this;omega
    have cO:=Kz cK;clear kr cK;obtain⟨wL,xc,x9,yc,yu,y7⟩:=kO.c6;have ME:=kO.frozen
    try simp only[List.getElem_cons_zero,List.getElem_cons_succ] at wL xc x9 yc yu y7
    have ku:=Kz kO;clear kO;go_simp;refine q.out _ _ ?_;clear q K
    try simp only[Act.put,uq1,uq2,uq3]
    refine fF (by kernel_rfl) ?_ _
    go_wp2_with fail;go_meet;refine⟨_,_,_,fq,rfl,(((((ku.o.set 0 _).set 1 _).set 2 _).set 3 _).set 4 _).set 5 _,HS.o.wr ((((((((Wr.refl [w.heap.size+2+1] _).setCell (by simp) _).setCell (by simp) _).setCell (by simp) _).setCell (by simp) _).setCell (by simp) _).setCell (by simp) _)) (fun c hc hm=>by simp at hm;subst hm;exact cO.o hc),X.o,?_,by omega,cO.o⟩;exact(((((((Gr.refl B).ext y).setCell (by simp;omega) _).setCell (by simp;omega) _).setCell (by simp;omega) _).setCell (by simp;omega) _).setCell (by simp;omega) _).setCell (by simp;omega) _
  ·skip
   go_simp;refine q.out _ _ gd (fun u6=>?_);clear q K
   try simp only[Act.put,uq1,uq2,uq3]
   refine dw [6] ?_
   refine(bf.cons rfl (fun K q=>?_) bf.nil);go_simp;refine q.out _ _ gd (fun wF=>?_);clear q K
   try simp only[Act.put,uq1,uq2,uq3]
   refine dw [9] ?_
   refine(bf.cons rfl (fun K q=>?_) bf.nil);refine nD (w:=B) nI gd (by rfl) _ _ _ (by rfl) 9 i0 _ _ Tryz.underlying108 HZ.o.1 HZ.o.2.1 HZ.o.2.2.1 HZ.o.2.2.2 rfl _ (by rfl) (by first|exact(bE.kF (w0:=B) (w:=B) 9 (le_refl _) (by omega)).gr gd|exact(bE.kF (w0:=B) (w:=B.alloc _) 9 (by simp) (by simp;omega)).gr gd) (by intro h;cases h) _ O (by rfl) (vL.gr (V.trans gd)) vX (by omega) ?_;intro b c fq y hs U hg hb bX cB
   have HS:=Kz hs;have X:=Kz U;have uo:=Kz cB;have uq:=Kz bX;clear hs U cB bX;refine q.out _ _ hg (fun uz=>?_);clear q K
   try simp only[Act.put,uq1,uq2,uq3]
   refine aN 10 ?_
   refine dw [12] ?_
   refine bf.last rfl (fun K q=>?_)
   have kO:az (B.ext y) (w.heap.size+2) 128 [.string ⟨#[]⟩,.string ⟨#[]⟩,.slice none 0 0,.bool false,.slice none 0 0,.slice none 0 0]:=by
    have q8:Wr [w.heap.size+2+1] _ (B.ext y):=uq.o;refine az.wr ?_ q8 (by simp);unfold az
    show((B.alloc _).alloc (.cells #[] 9)).heap[_]?=_;rw[show w.heap.size+2=B.heap.size by omega,(show Gr (B.alloc _) ((B.alloc (.cells #[.string ⟨#[]⟩,.string ⟨#[]⟩,.slice none 0 0,.bool false,.slice none 0 0,.slice none 0 0] 128)).alloc (.cells #[] 9)) from gd).below.block _ (by simp)];exact heap_alloc_new _ _
   have kr:∀c∈fq,w.heap.size+2+1=c∨((B.alloc (.cells #[.string ⟨#[]⟩,.string ⟨#[]⟩,.slice none 0 0,.bool false,.slice none 0 0,.slice none 0 0] 128)).alloc (.cells #[] 9)).drew.heap.size≤c:=fun c hc=>(uo.o c hc).imp (fun h=>ownB h) id
   have cK:w.heap.size+2∉fq:=fun hm=>by have:=kr _ hm;simp at this;omega
   have cO:=Kz cK;clear kr cK;obtain⟨wL,xc,x9,yc,yu,y7⟩:=kO.c6;have ME:=kO.frozen
   try simp only[List.getElem_cons_zero,List.getElem_cons_succ] at wL xc x9 yc yu y7
   have ku:=Kz kO;clear kO;go_simp;refine q.out _ _ ?_;clear q K
   try simp only[Act.put,uq1,uq2,uq3]
   refine fF (by kernel_rfl) ?_ _
   go_wp2_with fail;go_meet;refine⟨_,_,_,fq,rfl,(((((ku.o.set 0 _).set 1 _).set 2 _).set 3 _).set 4 _).set 5 _,HS.o.wr ((((((((Wr.refl [w.heap.size+2] _).setCell (by simp) _).setCell (by simp) _).setCell (by simp) _).setCell (by simp) _).setCell (by simp) _).setCell (by simp) _)) (fun c hc hm=>by simp at hm;subst hm;exact cO.o hc),X.o,?_,by omega,cO.o⟩;exact(((((((Gr.refl B).ext y).setCell (by simp;omega) _).setCell (by simp;omega) _).setCell (by simp;omega) _).setCell (by simp;omega) _).setCell (by simp;omega) _).setCell (by simp;omega) _
 case rest=>
  obtain⟨bo,a2,c2,y8,rfl,kO,sO,Mc,gO,Md,cK⟩:=hcut
  rename World=>W2
  have ve:=Kz sO;have Me:=Kz Mc;have ku:=Kz kO;have MF:=Kz gO;have cO:=Kz cK;have Mf:=kO.lt;have Mw:=gO.size;clear sO Mc kO gO cK;go_wp2_with fail
  go_loopw [4] (fun s4 wr=>∃(k:Nat) (fps:List (List Nat)) (a4:Option Addr) (c4:Nat),k≤D.length∧Ky (aY W2 fps.flatten)∧Gr B wr∧Ky (az wr bo 128 [.string x0,.string x1,.slice a2 O.length c2,.bool x3,.slice a4 k c4,.slice none 0 0])∧bE W2 183 wr (.slice a4 k c4) fps (D.take k)∧Ky (SlR y8 wr (.slice a2 O.length c2) O)∧W2.heap.size≤wr.heap.size∧s4=.int .i64 k) (fun s4 _=>D.length - (intOf s4).toNat)
  case atStart=>exact⟨0,[],none,0,by omega,Kz (by simpa using aY.nil W2),MF.o,ku,bE.nil W2 W2 183,ve,by omega,rfl⟩
  case round=>
   obtain⟨k,fps,a4,c4,hk,X,hg,HK,hown,HS,gV,rfl⟩:=hrel
   rename World=>W1
   have Y:=Kz hg;have T:=Kz hown;have ky:(D.take k).length=k:=by simp;omega
   have HL:=Kz ky;have y4:=MB _ hg;have zx:=blk y4;have zo:W1.cell? ⟨bo,4,none⟩=some (.slice a4 k c4):=HK.o.c 4;have MG:=blk zo;clear hg hown ky
   by_cases Z:k<D.length
   ·have dB:aU D[k]≤1048576:=le_trans (dI aU D Z) L6.o.2.1
    obtain⟨b,off,rfl,MH⟩:=vO k Z;obtain⟨gX,ik,dS,dV,fe,fu,gD,gF,gT,Nq,Nr,Ns,MI,lq,MJ,y9,za,zb,ze,zf,zg,zl,zn,zq,Na,Nb,zu,zy,zH,zL,zO,z8,A7,BM,E5,MK⟩:=KY LY Z (Gr.refl _);rw[←lq.o] at dB
    have oH:aS (dS,dV,fe,fu,gD,gF,gT)≤1048576:=by
     have h:dn (gX,ik)+aS (dS,dV,fe,fu,gD,gF,gT)≤1048576:=dB;omega
    have vB:=Kz oH;have ML:=Kz (bJ dS dV fe fu gD gF gT zb ze zf zg zl zn zq);have HA:=Kz (And.intro y9 za);have NM:=fun(w':World) (hg:Gr B w')=>(V.trans hg).keep zu
    have NN:=fun(w':World) (hg:Gr B w')=>(V.trans hg).keep zy
    have NP:=fun(w':World) (hg:Gr B w')=>(V.trans hg).keep zH
    have NQ:=fun(w':World) (hg:Gr B w')=>(V.trans hg).keep zL
    have NR:=fun(w':World) (hg:Gr B w')=>(V.trans hg).keep zO
    have NS:=fun(w':World) (hg:Gr B w')=>(V.trans hg).keep z8
    have NT:=fun(w':World) (hg:Gr B w')=>(V.trans hg).keep A7
    have NU:=fun(w':World) (hg:Gr B w')=>(V.trans hg).keep BM
    have NV:=fun(w':World) (hg:Gr B w')=>(V.trans hg).keep E5
    have j0:(0:Int)≤(k:Int):=by omega
    have j1:(k:Int)<(D.length:Int):=by omega
    clear dB oH y9 za zb ze zf zg zl zn zq vO zu zy zH zL zO z8 A7 BM E5;go_wp2_with fail;refine eB (fun w'=>Gr B w'∧w'.cell? ⟨bo,4,none⟩=some (.slice a4 k c4)) 19 (by kernel_rfl) (⟨Y.o.drew,zo⟩) (fun hU=>?_);refine aN 0 ?_;refine aN 2 ?_;refine aN 4 ?_;refine aN 8 ?_;refine aN 10 ?_;refine aN 1 ?_;refine aN 3 ?_;refine aN 9 ?_;refine aN 5 ?_;refine aN 11 ?_;refine aN 6 ?_;refine aN 12 ?_;refine aN 7 ?_;refine aN 13 ?_;refine dw [14] ?_;refine(bf.cons rfl (fun K q=>?_) bf.nil);go_simp
    go_at_call 162
    refine(ny _ _ (dS,dV,fe,fu,gD,gF,gT) _ (Rd.gr ML.o (V.trans (tg Y))) vB.o).mono ?_;rintro e w' ⟨es,fq,rfl,hr,U,y,rfl⟩;have HR:=Kz hr;have FX:=Kz U;obtain⟨r0,r1,r2,r3,r4,r5,MM,MN,MO,rfl⟩:=eO hr;clear hr U;refine q.out _ _ ⟨Y.o.trans gd,Gr.keep gd zo⟩ (fun wF=>?_);clear q K
    try simp only[Act.put,uq1,uq2,uq3]
    refine aN 15 ?_
    refine dw [16] ?_
    refine(bf.cons rfl (fun K q=>?_) bf.nil);go_simp;refine q.out _ _ ⟨Y.o.trans gd,Gr.keep gd zo⟩ (fun u6=>?_);clear q K
    try simp only[Act.put,uq1,uq2,uq3]
    refine dw [17] ?_
    refine(bf.cons rfl (fun K q=>?_) bf.nil);refine gU (α:=aX d) (wg:=B) (w0:=W2) (tg Y) (by omega) (by simp;omega) (by rfl) _ _ _ (by rfl) 183 i1 _ _ Tryz.underlying125 q9.o.1 q9.o.2.1 q9.o.2.2.1 q9.o.2.2.2 rfl (.slice a4 k c4) fps _ (by rfl) (T.o.gr gd) _ [fq] [((gX,ik),(dS,dV,fe,fu,gD,gF,gT))] (by rfl) (eT.one (w:=W1.drew.ext y) (by simp) ⟨[.int .i64 gX,.string ik],_,_,fq,rfl,rfl,bO gX ik HA.o.1 HA.o.2,Rd.gr HR.o gd⟩) (pE T.o FX.o) (by rw[HL.o];unfold maxLen;simp;omega) (by rw[HL.o];simp;omega) ?_;intro v9 w9 k1 k2 k3 k4
    obtain⟨a9,c9,oL⟩:=k1.form;have o5:(D.take k++[((gX,ik),(dS,dV,fe,fu,gD,gF,gT))]).length=k+1:=by rw[List.length_append,HL.o];rfl
    rw[o5] at oL;subst oL;have ae:=(HK.o.gr gd).wr k2 (sF T.o Mf);have s9:=(HS.o.gr gd).wr k2 (fun c hc=>sF T.o (ve.o.lt c hc));have z9:=k2.size;have vD:w9.cell? ⟨bo,4,none⟩=some (.slice a4 k c4):=ae.c 4;have MP:=ae.frozen 4;have MQ:=blk vD;have K1:=Kz k1;have K4:=Kz k4;have F6:=Kz ae;have S9:=Kz s9;clear k1 k2 k3 k4 ae s9 o5;refine q.out _ _ ⟨K4.o,vD⟩ (fun uz=>?_);clear q K
    try simp only[Act.put,uq1,uq2,uq3]
    refine aN 18 ?_
    refine dw [19] ?_
    refine bf.last rfl (fun K q=>?_)
    go_simp;refine q.out _ _ ?_;clear q K
    try simp only[Act.put,uq1,uq2,uq3]
    refine fF (by kernel_rfl) ?_ _
    go_wp2_with fail;refine⟨⟨k+1,fps++[fq],a9,c9,by omega,Kz (kD X.o T.o.lt gV FX.o),K4.o.setCell Md _,Kz (by have:=F6.o.set 4 (.slice a9 (k+1) c9);exact this),?_,Kz (S9.o.setAt cO.o),by simp at z9;simp;omega,by go_num⟩,by simp[intOf];omega⟩;have e:D.take (k+1)=D.take k++[((gX,ik),(dS,dV,fe,fu,gD,gF,gT))]:=by rw[List.take_succ_eq_append_getElem Z,←lq.o]
    rw[e];exact K1.o.GQ (kD X.o T.o.lt gV FX.o) Mf
   ·have F8:k=D.length:=by omega
    subst F8;have Ha:=T.o.fresh (by rw[HL.o];unfold bn;omega) X.o;rw[List.take_length] at Ha;obtain⟨He,s4,HV⟩:=Ha;have vF:=Kz s4;have Mg:=Kz HV;have Mh:bo<W1.heap.size:=by omega
    have Mx:=gV;have Mi:bo∉He:=fun hm=>by have:=HV.2 _ hm;omega
    have MR:=Kz Mi;have HY:=Kz s4.lt;clear s4 HV Mi T X HL;go_wp2_with fail
    go_loopw [5,6] (fun s5 s6 wr=>∃(k:Nat) (fps:List (List Nat)) (a5:Option Addr) (c5:Nat),k≤J.length∧Ky (aY W1 fps.flatten)∧Gr B wr∧Ky (az wr bo 128 [.string x0,.string x1,.slice a2 O.length c2,.bool x3,.slice a4 D.length c4,.slice a5 k c5])∧bE W1 186 wr (.slice a5 k c5) fps (J.take k)∧Ky (SlR y8 wr (.slice a2 O.length c2) O)∧Ky (SlR He wr (.slice a4 D.length c4) D)∧W1.heap.size≤wr.heap.size∧s5=.int .i64 k) (fun s5 _ _=>J.length - (intOf s5).toNat)
    case atStart=>exact⟨0,[],none,0,by omega,Kz (by simpa using aY.nil W1),Y.o,HK,bE.nil W1 W1 186,HS,vF,by omega,rfl⟩
    case round=>
     obtain⟨k,fps,a5,c5,hk,X,hg,HK,hown,HS,vF,gV,rfl⟩:=hrel
     rename World=>W3
     have Y:=Kz hg;have T:=Kz hown;have ky:(J.take k).length=k:=by simp;omega
     have HL:=Kz ky;have y5:=MC _ hg;have zx:=blk y5;have zo:W3.cell? ⟨bo,5,none⟩=some (.slice a5 k c5):=HK.o.c 5;have MG:=blk zo;clear hg hown ky
     by_cases Z:k<J.length
     ·have dB:aI J[k]≤1048576:=le_trans (dI aI J Z) L6.o.2.2
      have H5:=V.trans Y.o;obtain⟨b,off,rfl,MH⟩:=vR k Z;obtain⟨q0,q1,ah,ai,aj,ak,au,ax,ay,aZ,bg,bq,bB,bH,bL,bR,IV,KX,Nt,K3,K6,Nu,MI,lq,MJ,Mj,Mk,La,Li,Lj,Lm,Ls,Lv,Lx,Nc,Nf,LA,LB,LC,LD,LF,LG,LH,Ng,Nh,zu,zy,zH,zL,zO,z8,A7,BM,E5,NW,Nv,Nw,Ny,Nz,NA,NB,MK⟩:=KW LZ Z H5;rw[←lq.o] at dB
      have oH:aS (ah,ai,aj,ak,au,ax,ay)≤1048576∧aS (aZ,bg,bq,bB,bH,bL,bR)≤1048576:=by
       have h:q0.size+q1.size+aS (ah,ai,aj,ak,au,ax,ay)+aS (aZ,bg,bq,bB,bH,bL,bR)≤1048576:=dB;omega
      have vB:=Kz oH;have MS:=Kz (bJ ah ai aj ak au ax ay La Li Lj Lm Ls Lv Lx);have MU:=Kz (bJ aZ bg bq bB bH bL bR LA LB LC LD LF LG LH);have HA:=Kz (And.intro Mj Mk);have Ml:=Kz H5;have j0:(0:Int)≤(k:Int):=by omega
      have j1:(k:Int)<(J.length:Int):=by omega
      clear dB oH H5 Mj Mk La Li Lj Lm Ls Lv Lx LA LB LC LD LF LG LH vR;go_wp2_with fail;generalize vG:W3.alloc (.cells #[.string q0,.string q1,.int .i64 ah,.int .i64 ai,.int .i64 aj,.int .i64 ak,.string au,.string ax,.slice IV ay.length KX,.int .i64 aZ,.int .i64 bg,.int .i64 bq,.int .i64 bB,.string bH,.string bL,.slice K3 bR.length K6] 186)=W5;have g5:Gr W3 W5:=gb vG;have s5:W5.heap.size=W3.heap.size+1:=by rw[←vG];simp
      have Mm:W3.heap.size∉(Value.slice a5 k c5).ownBlock.toList:=fun hm=>by have:=(T.o.base _ (by simpa using hm)).2;omega
      have MV:=Kz Mm;have Mo:=Kz (sF T.o Mh);have VN:az W5 W3.heap.size 186 [.string q0,.string q1,.int .i64 ah,.int .i64 ai,.int .i64 aj,.int .i64 ak,.string au,.string ax,.slice IV ay.length KX,.int .i64 aZ,.int .i64 bg,.int .i64 bq,.int .i64 bB,.string bH,.string bL,.slice K3 bR.length K6]:=by rw[←vG];exact heap_alloc_new _ _
      have kp:=fun(w':World) (h:Wr (Value.slice a5 k c5).ownBlock.toList W5 w')=>(VN.wr h MV.o).c16
      clear VN;have MW:=g5.keep zo;have NY:=fun(w':World) (h:Wr (Value.slice a5 k c5).ownBlock.toList W5 w')=>h.aO MW Mo.o
      have I:=Kz g5;clear vG Mm g5;refine eB (fun w'=>Wr (Value.slice a5 k c5).ownBlock.toList W5 w'∧Gr B w') 16 (by kernel_rfl) (⟨(Gr.drew (Gr.refl W5)).eF _,Y.o.trans (I.o.trans (Gr.drew (Gr.refl W5)))⟩) (fun hU=>?_);refine aN 0 ?_;refine aN 2 ?_;refine aN 4 ?_;refine aN 6 ?_;refine aN 9 ?_;refine aN 1 ?_;refine aN 3 ?_;refine aN 5 ?_;refine aN 7 ?_;refine aN 10 ?_;refine dw [8] ?_;refine(bf.cons rfl (fun K q=>?_) bf.nil);go_simp
      go_at_call 162
      refine(ny _ _ (ah,ai,aj,ak,au,ax,ay) _ (Rd.gr MS.o (Ml.o.trans (tg I))) vB.o.1).mono ?_;rintro e w' ⟨es,fq,rfl,hr,U,y,rfl⟩;have Mq:=Kz hr;have MX:=Kz U;obtain⟨r0,r1,r2,r3,r4,r5,MM,MN,MO,rfl⟩:=eO hr;clear hr U;refine q.out _ _ ⟨Gr.eF gd _,Y.o.trans (tg I)⟩ (fun wF=>?_);clear q K
      try simp only[Act.put,uq1,uq2,uq3]
      refine dw [11] ?_
      refine(bf.cons rfl (fun K q=>?_) bf.nil);go_simp
      go_at_call 162
      refine(ny _ _ (aZ,bg,bq,bB,bH,bL,bR) _ (Rd.gr MU.o (Ml.o.trans (tg I))) vB.o.2).mono ?_;rintro e w' ⟨NZ,iw,rfl,hr,U,y2,rfl⟩;have MZ:=Kz hr;have M0:=Kz U;obtain⟨p0,p1,p2,p3,p4,p5,N7,N8,N9,rfl⟩:=eO hr;clear hr U;refine q.out _ _ ⟨Gr.eF gd _,Y.o.trans (tg I)⟩ (fun u6=>?_);clear q K
      try simp only[Act.put,uq1,uq2,uq3]
      refine aN 12 ?_
      refine dw [13] ?_
      refine(bf.cons rfl (fun K q=>?_) bf.nil);go_simp;refine q.out _ _ ⟨Gr.eF gd _,Y.o.trans (tg I)⟩ (fun uz=>?_);clear q K
      try simp only[Act.put,uq1,uq2,uq3]
      refine dw [14] ?_
      refine(bf.cons rfl (fun K q=>?_) bf.nil);have o9:aY W5 (fq++iw):=MX.o.append (w1:=W5.drew.ext y) (by simp) (fun c hc=>Rd.lt Mq.o c hc) M0.o;have qb:=Kz o9;clear o9;refine gU (α:=aD d) (wg:=B) (w0:=W1) (Y.o.trans (tg I)) (by omega) (by simp;omega) (by rfl) _ _ _ (by rfl) 186 i2 _ _ Tryz.underlying126 uf.o.1 uf.o.2.1 uf.o.2.2.1 uf.o.2.2.2 rfl (.slice a5 k c5) fps _ (by rfl) (T.o.gr (tg I)) _ [fq++iw] [(q0,q1,(ah,ai,aj,ak,au,ax,ay),(aZ,bg,bq,bB,bH,bL,bR))] (by rfl) (eT.one (w:=(W5.drew.ext y).ext y2) (by simp;omega) ⟨[.string q0],_,[],fq++iw,rfl,rfl,⟨rfl,rfl,HA.o.1⟩,⟨[.string q1],_,[],fq++iw,rfl,rfl,⟨rfl,rfl,HA.o.2⟩,⟨_,_,fq,iw,rfl,rfl,Rd.gr Mq.o gd,Rd.gr MZ.o gd⟩⟩⟩) (pE (T.o.gr I.o) qb.o) (by rw[HL.o];unfold maxLen;simp;omega) (by rw[HL.o];simp;omega) ?_;intro v9 w9 k1 k2 k3 k4
      obtain⟨a9,c9,oL⟩:=k1.form;have o5:(J.take k++[(q0,q1,(ah,ai,aj,ak,au,ax,ay),(aZ,bg,bq,bB,bH,bL,bR))]).length=k+1:=by rw[List.length_append,HL.o];rfl
      rw[o5] at oL;subst oL;have ae:=(HK.o.gr (tg I)).wr k2 Mo.o;have s9:=(HS.o.gr (tg I)).wr k2 (fun c hc=>sF T.o (by have:=ve.o.lt c hc;omega));have Mr:=(vF.o.gr (tg I)).wr k2 (fun c hc=>sF T.o (show c<W1.heap.size from by have:=HY.o c hc;omega));have z9:=k2.size;have Ms:Wr (Value.slice a5 k c5).ownBlock.toList W5 w9:=(Gr.eF gd _).trans k2;have vD:w9.cell? ⟨bo,5,none⟩=some (.slice a5 k c5):=ae.c 5;have MP:=ae.frozen 5;have MQ:=blk vD;have K1:=Kz k1;have K4:=Kz k4;have F6:=Kz ae;have S9:=Kz s9;have M3:=Kz Mr;have M4:=Kz Ms;clear k1 k2 k3 k4 ae s9 Mr o5 Ms;refine q.out _ _ ⟨M4.o,K4.o⟩ (fun Oa=>?_);clear q K
      try simp only[Act.put,uq1,uq2,uq3]
      refine aN 15 ?_
      refine dw [16] ?_
      refine bf.last rfl (fun K q=>?_)
      go_simp;refine q.out _ _ ?_;clear q K
      try simp only[Act.put,uq1,uq2,uq3]
      refine fF (by kernel_rfl) ?_ _
      go_wp2_with fail;refine⟨⟨k+1,fps++[fq++iw],a9,c9,by omega,Kz (kD X.o T.o.lt gV (qb.o.of_le I.o.size)),K4.o.setCell Md _,Kz (by have:=F6.o.set 5 (.slice a9 (k+1) c9);exact this),?_,Kz (S9.o.setAt cO.o),Kz (M3.o.setAt MR.o),by simp at z9;simp;omega,by go_num⟩,by simp[intOf];omega⟩;have e:J.take (k+1)=J.take k++[(q0,q1,(ah,ai,aj,ak,au,ax,ay),(aZ,bg,bq,bB,bH,bL,bR))]:=by rw[List.take_succ_eq_append_getElem Z,←lq.o]
      rw[e];exact K1.o.GQ (kD X.o T.o.lt gV (qb.o.of_le I.o.size)) Mh
     ·have F8:k=J.length:=by omega
      subst F8;have LJ:=T.o.fresh (by rw[HL.o];unfold bn;omega) X.o;rw[List.take_length] at LJ;obtain⟨M5,s5,Mt⟩:=LJ;have M6:=Kz s5;have Mv:=Kz Mt;obtain⟨y,rfl⟩:=Y.o;obtain⟨c0,c1,M7,c3,M8,M9⟩:=HK.o.c6
      try simp only[List.getElem_cons_zero,List.getElem_cons_succ] at c0 c1 M7 c3 M8 M9
      have o9:aY w (y8++(He++M5)):=(Me.o.of_le V.size).append (w1:=W2) (by omega) ve.o.lt (Mg.o.append Mx HY.o Mv.o);have qb:=Kz o9;have F4:=Kz (Mg.o.of_le Mw);have F5:=Kz (Mv.o.of_le (show B.heap.size≤W1.heap.size by omega));obtain rfl:=EB.o;clear s5 Mt o9;go_wp2_with fail;obtain⟨h0,h1⟩:=H0.o
      exact bodyPost_ret (v:=.agg #[.string x0,.string x1,.slice a2 O.length c2,.bool x3,.slice a4 D.length c4,.slice a5 J.length c5])
       (by simp[results,Tryz.results126,go_sem]) rfl ⟨_,_,rfl,pI x0 x1 O x3 D J h0 h1 (SlR.moved HS.o Me.o gd (by simp)) (SlR.moved vF.o F4.o gd (by simp)) (SlR.moved M6.o F5.o gd (by simp)),qb.o,gd⟩
end Go.Proofs.YtleafadpfeibfaaGreat
