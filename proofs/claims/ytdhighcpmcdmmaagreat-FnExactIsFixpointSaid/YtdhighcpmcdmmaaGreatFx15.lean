/- Contracts and laws towards ReadsOf, part 15 of 54. No condition. -/
import Derived.Test.YtdhighcpmcdmmaaGreatFx13
import Derived.Deep.DeepCutAuto
set_option maxHeartbeats 32000000
set_option maxRecDepth 10000
set_option linter.unusedVariables false
set_option linter.unusedSimpArgs false
namespace Go.Proofs.YtdhighcpmcdmmaaGreat
open Go.RowKit
open _root_.Nat (le_refl le_trans)
variable{d:Nat}
theorem Tryz.Iq:(Tryz.prog.info? 134).map (fun i=>(i.zero,i.size,i.bytes))=some (some (.agg #[.int .i64 0,.string ByteArray.empty,.int .i64 0,.int .i64 0,.int .i64 0,.int .i64 0,.string ByteArray.empty,.string ByteArray.empty,.slice none 0 0]),9,112):=by kernel_rfl
theorem Tryz.Gf:(Tryz.prog.info? 213).map (fun i=>(i.zero,i.size,i.bytes))=some (some (.agg #[.string ByteArray.empty,.string ByteArray.empty,.int .i64 0,.int .i64 0,.int .i64 0,.int .i64 0,.string ByteArray.empty,.string ByteArray.empty,.slice none 0 0,.int .i64 0,.int .i64 0,.int .i64 0,.int .i64 0,.string ByteArray.empty,.string ByteArray.empty,.slice none 0 0]),16,208):=by kernel_rfl
theorem Tryz.Gi:(Tryz.prog.info? 9).map (fun i=>(i.zero,i.size,i.bytes))=some (some (.string ByteArray.empty),1,16):=by kernel_rfl
def JD(B:World)(T:TypeId)(n l:ByteArray)(xs:List ByteArray)(lit:Bool)(s:Value)(wr:World):Prop:=
 ∃h a c fq,s=.pointer (some ⟨h,0,none⟩)∧az wr h T [.string n,.string l,.slice a xs.length c,.bool lit,.slice none 0 0,.slice none 0 0]∧SlR fq wr (.slice a xs.length c) xs∧aY B fq∧Gr B wr∧B.heap.size≤h∧h∉fq
set_option maxRecDepth 100000 in
theorem DK{fx:List Nat}{cx:Array Value}(x:(aW d))(w:World)(hx:Rd.rd fx w cx.toList x)(hl:bF x≤1048576):
  Calls Tryz.prog 158 #[.agg cx] w (Made w x):=by
 obtain⟨x0,x1,I,x3,D,H,rD,rE,zV,rR,rT,zW,sw,sG,zX,rfl,rfl,-,sH,sN,kE,zf,zg,sW,zi,zl,tJ,zm,zn⟩:=KV hx;have kL:=sW.op3;have kQ:=tJ.op3;clear hx
 have hw:cu I≤1048576∧cz D≤1048576∧df H≤1048576:=by
  have h:x0.size+x1.size+cu I+cz D+df H≤1048576:=hl;omega
 have kS:I.length≤1048576:=le_trans (bT ByteArray.size I) hw.1;have z8:D.length≤1048576:=le_trans (bT aU D) hw.2.1;have Ab:H.length≤1048576:=le_trans (bT aI H) hw.2.2;have uh:=Kz hw;have H0:=Kz (And.intro sH sN);obtain⟨i0,hi⟩:=info_parts Tryz.Gi;have HZ:=Kz hi;clear hi;obtain⟨i1,hi⟩:=info_parts Tryz.Iq;have gM:=Kz hi;clear hi;obtain⟨i2,hi,ui,um,uq⟩:=info_parts Tryz.Gf;have gT:=Kz (And.intro hi (And.intro ui (And.intro um uq)));clear hi ui um uq hl hw sH sN;go_in;go_wp2_with fail;generalize hB:((w.alloc (.cells #[.string x0,.string x1,.slice rD I.length rE,.bool x3,.slice rR D.length rT,.slice sw H.length sG] 112)).alloc (.cells #[.string ⟨#[]⟩,.string ⟨#[]⟩,.slice none 0 0,.bool false,.slice none 0 0,.slice none 0 0] 112))=B;have T:Gr w B:=gb hB;obtain⟨Ad,Ae,Ag,AA,vV,vW⟩:=kb6 hB (w.heap.size) (.string x0) (.string x1) (.slice rD I.length rE) (.bool x3) (.slice rR D.length rT) (.slice sw H.length sG);have sB:B.heap.size=w.heap.size+2:=szB hB;have EB:=Kz hB;clear hB
 go_cut [3] (fun s3 wr=>JD B 112 x0 x1 I x3 s3 wr)
 case first=>
  refine eB (fun w'=>Gr B w') 12 (by kernel_rfl) (Gr.drew (Gr.refl _)) (fun hU=>?_)
  refine bR 0 ?_
  refine bR 2 ?_
  refine bR 4 ?_
  refine bR 7 ?_
  refine bR 1 ?_
  refine bR 3 ?_
  refine bR 5 ?_
  refine bR 8 ?_
  refine dw [6,11] ?_
  refine(bf.cons rfl (fun K q=>?_) (bf.cons rfl (fun K q=>?_) bf.nil))
  ·skip
   go_simp;refine q.out _ _ gd (fun kT=>?_);clear q K
   try simp only[Act.put,uq1,uq2,uq3]
   refine dw [9,11] ?_
   refine(bf.cons rfl (fun K q=>?_) (bf.cons rfl (fun K q=>?_) bf.nil))
   ·skip
    refine nD (w:=B) nI gd (by rfl) _ _ _ (by rfl) 9 i0 _ _ Tryz.underlying94 HZ.o.1 HZ.o.2.1 HZ.o.2.2.1 HZ.o.2.2.2 rfl _ (by rfl) (by first|exact(bE.kF (w0:=B) (w:=B) 9 (le_refl _) (by omega)).gr gd|exact(bE.kF (w0:=B) (w:=B.alloc _) 9 (by simp) (by simp;omega)).gr gd) (by intro h;cases h) _ I (by rfl) (kE.gr (T.trans gd)) kS (by omega) ?_
    intro b c fq y hs O s hb bB bD
    have HS:=Kz hs;have U:=Kz O;have ik:=Kz bD;have iw:=Kz bB;clear hs O bD bB;refine q.out _ _ s (fun jN=>?_);clear q K
    try simp only[Act.put,uq1,uq2,uq3]
    refine bR 10 ?_
    refine dw [11] ?_
    refine(bf.cons rfl (fun K q=>?_) bf.nil);go_simp;refine q.out _ _ gd (fun jX=>?_);clear q K
    try simp only[Act.put,uq1,uq2,uq3]
    refine dw [12] ?_
    refine bf.last rfl (fun K q=>?_)
    go_simp;refine q.out _ _ ?_;clear q K
    try simp only[Act.put,uq1,uq2,uq3]
    refine fF (by kernel_rfl) ?_ _
    go_wp2_with fail;go_meet;refine⟨_,_,_,fq,rfl,?_,HS.o.gr gd,U.o,gd,by omega,fun hm=>by have:=HS.o.lt _ hm;simp at this;omega⟩;unfold az;rw[show w.heap.size+2+y.objs.size=(B.ext y).heap.size by simp;omega];exact heap_alloc_new _ _
   ·skip
    go_simp;refine q.out _ _ gd (fun jX=>?_);clear q K
    try simp only[Act.put,uq1,uq2,uq3]
    refine dw [9] ?_
    refine(bf.cons rfl (fun K q=>?_) bf.nil);refine nD (w:=B) nI gd (by rfl) _ _ _ (by rfl) 9 i0 _ _ Tryz.underlying94 HZ.o.1 HZ.o.2.1 HZ.o.2.2.1 HZ.o.2.2.2 rfl _ (by rfl) (by first|exact(bE.kF (w0:=B) (w:=B) 9 (le_refl _) (by omega)).gr gd|exact(bE.kF (w0:=B) (w:=B.alloc _) 9 (by simp) (by simp;omega)).gr gd) (by intro h;cases h) _ I (by rfl) (kE.gr (T.trans gd)) kS (by omega) ?_;intro b c fq y hs O s hb bB bD
    have HS:=Kz hs;have U:=Kz O;have ik:=Kz bD;have iw:=Kz bB;clear hs O bD bB;refine q.out _ _ s (fun jN=>?_);clear q K
    try simp only[Act.put,uq1,uq2,uq3]
    refine bR 10 ?_
    refine dw [12] ?_
    refine bf.last rfl (fun K q=>?_)
    have kO:az (B.ext y) (w.heap.size+2+1) 112 [.string ⟨#[]⟩,.string ⟨#[]⟩,.slice none 0 0,.bool false,.slice none 0 0,.slice none 0 0]:=by
     have gH:Wr [w.heap.size+2] _ (B.ext y):=iw.o;refine az.wr ?_ gH (by simp);unfold az
     show((B.alloc (.cells #[] 9)).alloc _).heap[_]?=_;rw[show w.heap.size+2+1=(B.alloc (.cells #[] 9)).heap.size by simp;omega];exact heap_alloc_new _ _
    have eH:∀c∈fq,w.heap.size+2=c∨((B.alloc (.cells #[] 9)).alloc (.cells #[.string ⟨#[]⟩,.string ⟨#[]⟩,.slice none 0 0,.bool false,.slice none 0 0,.slice none 0 0] 112)).drew.heap.size≤c:=fun c hc=>(ik.o c hc).imp (fun h=>ownB h) id
    have bH:w.heap.size+2+1∉fq:=fun hm=>by have:=eH _ hm;simp at this;omega
    have bK:=Kz bH;clear eH bH;obtain⟨kV,kX,kZ,lq,lG,lV⟩:=kO.c6;have vX:=kO.frozen
    try simp only[List.getElem_cons_zero,List.getElem_cons_succ] at kV kX kZ lq lG lV
    have fe:=Kz kO;clear kO;go_simp;refine q.out _ _ ?_;clear q K
    try simp only[Act.put,uq1,uq2,uq3]
    refine fF (by kernel_rfl) ?_ _
    go_wp2_with fail;go_meet;refine⟨_,_,_,fq,rfl,(((((fe.o.set 0 _).set 1 _).set 2 _).set 3 _).set 4 _).set 5 _,HS.o.wr ((((((((Wr.refl [w.heap.size+2+1] _).setCell (by simp) _).setCell (by simp) _).setCell (by simp) _).setCell (by simp) _).setCell (by simp) _).setCell (by simp) _)) (fun c hc hm=>by simp at hm;subst hm;exact bK.o hc),U.o,?_,by omega,bK.o⟩;exact(((((((Gr.refl B).ext y).setCell (by simp;omega) _).setCell (by simp;omega) _).setCell (by simp;omega) _).setCell (by simp;omega) _).setCell (by simp;omega) _).setCell (by simp;omega) _
  ·skip
   go_simp;refine q.out _ _ gd (fun jX=>?_);clear q K
   try simp only[Act.put,uq1,uq2,uq3]
   refine dw [6] ?_
   refine(bf.cons rfl (fun K q=>?_) bf.nil);go_simp;refine q.out _ _ gd (fun kT=>?_);clear q K
   try simp only[Act.put,uq1,uq2,uq3]
   refine dw [9] ?_
   refine(bf.cons rfl (fun K q=>?_) bf.nil);refine nD (w:=B) nI gd (by rfl) _ _ _ (by rfl) 9 i0 _ _ Tryz.underlying94 HZ.o.1 HZ.o.2.1 HZ.o.2.2.1 HZ.o.2.2.2 rfl _ (by rfl) (by first|exact(bE.kF (w0:=B) (w:=B) 9 (le_refl _) (by omega)).gr gd|exact(bE.kF (w0:=B) (w:=B.alloc _) 9 (by simp) (by simp;omega)).gr gd) (by intro h;cases h) _ I (by rfl) (kE.gr (T.trans gd)) kS (by omega) ?_;intro b c fq y hs O s hb bB bD
   have HS:=Kz hs;have U:=Kz O;have ik:=Kz bD;have iw:=Kz bB;clear hs O bD bB;refine q.out _ _ s (fun jN=>?_);clear q K
   try simp only[Act.put,uq1,uq2,uq3]
   refine bR 10 ?_
   refine dw [12] ?_
   refine bf.last rfl (fun K q=>?_)
   have kO:az (B.ext y) (w.heap.size+2) 112 [.string ⟨#[]⟩,.string ⟨#[]⟩,.slice none 0 0,.bool false,.slice none 0 0,.slice none 0 0]:=by
    have gH:Wr [w.heap.size+2+1] _ (B.ext y):=iw.o;refine az.wr ?_ gH (by simp);unfold az
    show((B.alloc _).alloc (.cells #[] 9)).heap[_]?=_;rw[show w.heap.size+2=B.heap.size by omega,(show Gr (B.alloc _) ((B.alloc (.cells #[.string ⟨#[]⟩,.string ⟨#[]⟩,.slice none 0 0,.bool false,.slice none 0 0,.slice none 0 0] 112)).alloc (.cells #[] 9)) from gd).below.block _ (by simp)];exact heap_alloc_new _ _
   have eH:∀c∈fq,w.heap.size+2+1=c∨((B.alloc (.cells #[.string ⟨#[]⟩,.string ⟨#[]⟩,.slice none 0 0,.bool false,.slice none 0 0,.slice none 0 0] 112)).alloc (.cells #[] 9)).drew.heap.size≤c:=fun c hc=>(ik.o c hc).imp (fun h=>ownB h) id
   have bH:w.heap.size+2∉fq:=fun hm=>by have:=eH _ hm;simp at this;omega
   have bK:=Kz bH;clear eH bH;obtain⟨kV,kX,kZ,lq,lG,lV⟩:=kO.c6;have vX:=kO.frozen
   try simp only[List.getElem_cons_zero,List.getElem_cons_succ] at kV kX kZ lq lG lV
   have fe:=Kz kO;clear kO;go_simp;refine q.out _ _ ?_;clear q K
   try simp only[Act.put,uq1,uq2,uq3]
   refine fF (by kernel_rfl) ?_ _
   go_wp2_with fail;go_meet;refine⟨_,_,_,fq,rfl,(((((fe.o.set 0 _).set 1 _).set 2 _).set 3 _).set 4 _).set 5 _,HS.o.wr ((((((((Wr.refl [w.heap.size+2] _).setCell (by simp) _).setCell (by simp) _).setCell (by simp) _).setCell (by simp) _).setCell (by simp) _).setCell (by simp) _)) (fun c hc hm=>by simp at hm;subst hm;exact bK.o hc),U.o,?_,by omega,bK.o⟩;exact(((((((Gr.refl B).ext y).setCell (by simp;omega) _).setCell (by simp;omega) _).setCell (by simp;omega) _).setCell (by simp;omega) _).setCell (by simp;omega) _).setCell (by simp;omega) _
 case rest=>
  obtain⟨bo,a2,c2,l5,rfl,kO,sO,uw,gO,uL,bH⟩:=hcut
  rename World=>W2
  have j4:=Kz sO;have uR:=Kz uw;have fe:=Kz kO;have wm:=Kz gO;have bK:=Kz bH;have uW:=kO.lt;have vR:=gO.size;clear sO uw kO gO bH;go_wp2_with fail
  go_loopw [4] (fun s4 wr=>∃(k:Nat) (fps:List (List Nat)) (a4:Option Addr) (c4:Nat),k≤D.length∧Ky (aY W2 fps.flatten)∧Gr B wr∧Ky (az wr bo 112 [.string x0,.string x1,.slice a2 I.length c2,.bool x3,.slice a4 k c4,.slice none 0 0])∧bE W2 134 wr (.slice a4 k c4) fps (D.take k)∧Ky (SlR l5 wr (.slice a2 I.length c2) I)∧W2.heap.size≤wr.heap.size∧s4=.int .i64 k) (fun s4 _=>D.length - (intOf s4).toNat)
  case atStart=>exact⟨0,[],none,0,by omega,Kz (by simpa using aY.nil W2),wm.o,fe,bE.nil W2 W2 134,j4,by omega,rfl⟩
  case round=>
   obtain⟨k,fps,a4,c4,hk,U,s,HK,hown,HS,dG,rfl⟩:=hrel
   rename World=>W1
   have X:=Kz s;have J:=Kz hown;have fu:(D.take k).length=k:=by simp;omega
   have HL:=Kz fu;have y4:=vV _ s;have zx:=blk y4;have zo:W1.cell? ⟨bo,4,none⟩=some (.slice a4 k c4):=HK.o.c 4;have wz:=blk zo;clear s hown fu
   by_cases Y:k<D.length
   ·have bL:aU D[k]≤1048576:=le_trans (dI aU D Y) uh.o.2.1
    obtain⟨b,off,rfl,wF⟩:=kL k Y;obtain⟨dL,dU,bN,bV,cK,cO,dz,dA,dC,zt,zu,zy,wI,fw,wK,l6,l7,l8,ma,mf,mh,mo,mq,mr,y7,y8,mH,mZ,nz,nM,nO,nP,nS,nZ,oh,wN⟩:=KY sW Y (Gr.refl _);rw[←fw.o] at bL
    have fA:ak (bN,bV,cK,cO,dz,dA,dC)≤1048576:=by
     have h:dn (dL,dU)+ak (bN,bV,cK,cO,dz,dA,dC)≤1048576:=bL;omega
    have j5:=Kz fA;have wO:=Kz (bJ bN bV cK cO dz dA dC l8 ma mf mh mo mq mr);have HA:=Kz (And.intro l6 l7);have AU:=fun(w':World) (s:Gr B w')=>(T.trans s).keep mH
    have AZ:=fun(w':World) (s:Gr B w')=>(T.trans s).keep mZ
    have A8:=fun(w':World) (s:Gr B w')=>(T.trans s).keep nz
    have Bu:=fun(w':World) (s:Gr B w')=>(T.trans s).keep nM
    have BF:=fun(w':World) (s:Gr B w')=>(T.trans s).keep nO
    have BM:=fun(w':World) (s:Gr B w')=>(T.trans s).keep nP
    have BR:=fun(w':World) (s:Gr B w')=>(T.trans s).keep nS
    have BU:=fun(w':World) (s:Gr B w')=>(T.trans s).keep nZ
    have BX:=fun(w':World) (s:Gr B w')=>(T.trans s).keep oh
    have j0:(0:Int)≤(k:Int):=by omega
    have j1:(k:Int)<(D.length:Int):=by omega
    clear bL fA l6 l7 l8 ma mf mh mo mq mr kL mH mZ nz nM nO nP nS nZ oh;go_wp2_with fail;refine eB (fun w'=>Gr B w'∧w'.cell? ⟨bo,4,none⟩=some (.slice a4 k c4)) 19 (by kernel_rfl) (⟨X.o.drew,zo⟩) (fun hU=>?_);refine bR 0 ?_;refine bR 2 ?_;refine bR 4 ?_;refine bR 8 ?_;refine bR 10 ?_;refine bR 1 ?_;refine bR 3 ?_;refine bR 9 ?_;refine bR 5 ?_;refine bR 11 ?_;refine bR 6 ?_;refine bR 12 ?_;refine bR 7 ?_;refine bR 13 ?_;refine dw [14] ?_;refine(bf.cons rfl (fun K q=>?_) bf.nil);go_simp
    go_at_call 190
    refine(ny _ _ (bN,bV,cK,cO,dz,dA,dC) _ (Rd.gr wO.o (T.trans (tg X))) j5.o).mono ?_;rintro e w' ⟨es,fq,rfl,hr,O,y,rfl⟩;have HR:=Kz hr;have oo:=Kz O;obtain⟨r0,r1,r2,r3,r4,r5,wP,wZ,xc,rfl⟩:=eO hr;clear hr O;refine q.out _ _ ⟨X.o.trans gd,Gr.keep gd zo⟩ (fun kT=>?_);clear q K
    try simp only[Act.put,uq1,uq2,uq3]
    refine bR 15 ?_
    refine dw [16] ?_
    refine(bf.cons rfl (fun K q=>?_) bf.nil);go_simp;refine q.out _ _ ⟨X.o.trans gd,Gr.keep gd zo⟩ (fun jX=>?_);clear q K
    try simp only[Act.put,uq1,uq2,uq3]
    refine dw [17] ?_
    refine(bf.cons rfl (fun K q=>?_) bf.nil);refine gU (α:=aX d) (wg:=B) (w0:=W2) (tg X) (by omega) (by simp;omega) (by rfl) _ _ _ (by rfl) 134 i1 _ _ Tryz.underlying109 gM.o.1 gM.o.2.1 gM.o.2.2.1 gM.o.2.2.2 rfl (.slice a4 k c4) fps _ (by rfl) (J.o.gr gd) _ [fq] [((dL,dU),(bN,bV,cK,cO,dz,dA,dC))] (by rfl) (eT.one (w:=W1.drew.ext y) (by simp) ⟨[.int .i64 dL,.string dU],_,_,fq,rfl,rfl,bO dL dU HA.o.1 HA.o.2,Rd.gr HR.o gd⟩) (pE J.o oo.o) (by rw[HL.o];unfold maxLen;simp;omega) (by rw[HL.o];simp;omega) ?_;intro v9 w9 k1 k2 k3 k4
    obtain⟨a9,c9,fK⟩:=k1.form;have gm:(D.take k++[((dL,dU),(bN,bV,cK,cO,dz,dA,dC))]).length=k+1:=by rw[List.length_append,HL.o];rfl
    rw[gm] at fK;subst fK;have Z:=(HK.o.gr gd).wr k2 (sF J.o uW);have s9:=(HS.o.gr gd).wr k2 (fun c hc=>sF J.o (j4.o.lt c hc));have z9:=k2.size;have ku:w9.cell? ⟨bo,4,none⟩=some (.slice a4 k c4):=Z.c 4;have xg:=Z.frozen 4;have xR:=blk ku;have K1:=Kz k1;have K4:=Kz k4;have oq:=Kz Z;have S9:=Kz s9;clear k1 k2 k3 k4 Z s9 gm;refine q.out _ _ ⟨K4.o,ku⟩ (fun jN=>?_);clear q K
    try simp only[Act.put,uq1,uq2,uq3]
    refine bR 18 ?_
    refine dw [19] ?_
    refine bf.last rfl (fun K q=>?_)
    go_simp;refine q.out _ _ ?_;clear q K
    try simp only[Act.put,uq1,uq2,uq3]
    refine fF (by kernel_rfl) ?_ _
    go_wp2_with fail;refine⟨⟨k+1,fps++[fq],a9,c9,by omega,Kz (kD U.o J.o.lt dG oo.o),K4.o.setCell uL _,Kz (by have:=oq.o.set 4 (.slice a9 (k+1) c9);exact this),?_,Kz (S9.o.setAt bK.o),by simp at z9;simp;omega,by go_num⟩,by simp[intOf];omega⟩;have e:D.take (k+1)=D.take k++[((dL,dU),(bN,bV,cK,cO,dz,dA,dC))]:=by rw[List.take_succ_eq_append_getElem Y,←fw.o]
    rw[e];exact K1.o.GQ (kD U.o J.o.lt dG oo.o) uW
   ·have ow:k=D.length:=by omega
    subst ow;have oz:=J.o.fresh (by rw[HL.o];unfold bn;omega) U.o;rw[List.take_length] at oz;obtain⟨oG,s4,oH⟩:=oz;have ky:=Kz s4;have uZ:=Kz oH;have ve:bo<W1.heap.size:=by omega
    have vU:=dG;have vo:bo∉oG:=fun hm=>by have:=oH.2 _ hm;omega
    have xS:=Kz vo;have oK:=Kz s4.lt;clear s4 oH vo J U HL;go_wp2_with fail
    go_loopw [5,6] (fun s5 s6 wr=>∃(k:Nat) (fps:List (List Nat)) (a5:Option Addr) (c5:Nat),k≤H.length∧Ky (aY W1 fps.flatten)∧Gr B wr∧Ky (az wr bo 112 [.string x0,.string x1,.slice a2 I.length c2,.bool x3,.slice a4 D.length c4,.slice a5 k c5])∧bE W1 213 wr (.slice a5 k c5) fps (H.take k)∧Ky (SlR l5 wr (.slice a2 I.length c2) I)∧Ky (SlR oG wr (.slice a4 D.length c4) D)∧W1.heap.size≤wr.heap.size∧s5=.int .i64 k) (fun s5 _ _=>H.length - (intOf s5).toNat)
    case atStart=>exact⟨0,[],none,0,by omega,Kz (by simpa using aY.nil W1),X.o,HK,bE.nil W1 W1 213,HS,ky,by omega,rfl⟩
    case round=>
     obtain⟨k,fps,a5,c5,hk,U,s,HK,hown,HS,ky,dG,rfl⟩:=hrel
     rename World=>W3
     have X:=Kz s;have J:=Kz hown;have fu:(H.take k).length=k:=by simp;omega
     have HL:=Kz fu;have y5:=vW _ s;have zx:=blk y5;have zo:W3.cell? ⟨bo,5,none⟩=some (.slice a5 k c5):=HK.o.c 5;have wz:=blk zo;clear s hown fu
     by_cases Y:k<H.length
     ·have bL:aI H[k]≤1048576:=le_trans (dI aI H Y) uh.o.2.2
      have oL:=T.trans X.o;obtain⟨b,off,rfl,wF⟩:=kQ k Y;obtain⟨q0,q1,ae,ah,ai,aj,au,ax,ay,aL,aN,aS,aV,aZ,bg,bq,oN,oV,zz,oW,o9,zA,wI,fw,wK,vv,vB,pG,pM,pR,pV,p9,qo,qD,y9,za,qE,qG,qN,qR,qV,qX,rf,zb,ze,mH,mZ,nz,nM,nO,nP,nS,nZ,oh,Cf,zC,zF,zH,zL,zO,zS,wN⟩:=KW tJ Y oL;rw[←fw.o] at bL
      have fA:ak (ae,ah,ai,aj,au,ax,ay)≤1048576∧ak (aL,aN,aS,aV,aZ,bg,bq)≤1048576:=by
       have h:q0.size+q1.size+ak (ae,ah,ai,aj,au,ax,ay)+ak (aL,aN,aS,aV,aZ,bg,bq)≤1048576:=bL;omega
      have j5:=Kz fA;have x9:=Kz (bJ ae ah ai aj au ax ay pG pM pR pV p9 qo qD);have yc:=Kz (bJ aL aN aS aV aZ bg bq qE qG qN qR qV qX rf);have HA:=Kz (And.intro vv vB);have vC:=Kz oL;have j0:(0:Int)≤(k:Int):=by omega
      have j1:(k:Int)<(H.length:Int):=by omega
      clear bL fA oL vv vB pG pM pR pV p9 qo qD qE qG qN qR qV qX rf kQ;go_wp2_with fail;generalize kz:W3.alloc (.cells #[.string q0,.string q1,.int .i64 ae,.int .i64 ah,.int .i64 ai,.int .i64 aj,.string au,.string ax,.slice oN ay.length oV,.int .i64 aL,.int .i64 aN,.int .i64 aS,.int .i64 aV,.string aZ,.string bg,.slice oW bq.length o9] 213)=W5;have g5:Gr W3 W5:=gb kz;have s5:W5.heap.size=W3.heap.size+1:=by rw[←kz];simp
      have vD:W3.heap.size∉(Value.slice a5 k c5).ownBlock.toList:=fun hm=>by have:=(J.o.base _ (by simpa using hm)).2;omega
      have yf:=Kz vD;have vE:=Kz (sF J.o ve);have VN:az W5 W3.heap.size 213 [.string q0,.string q1,.int .i64 ae,.int .i64 ah,.int .i64 ai,.int .i64 aj,.string au,.string ax,.slice oN ay.length oV,.int .i64 aL,.int .i64 aN,.int .i64 aS,.int .i64 aV,.string aZ,.string bg,.slice oW bq.length o9]:=by rw[←kz];exact heap_alloc_new _ _
      have kp:=fun(w':World) (h:Wr (Value.slice a5 k c5).ownBlock.toList W5 w')=>(VN.wr h yf.o).c16
      clear VN;have yh:=g5.keep zo;have Cg:=fun(w':World) (h:Wr (Value.slice a5 k c5).ownBlock.toList W5 w')=>h.aO yh vE.o
      have E:=Kz g5;clear kz vD g5;refine eB (fun w'=>Wr (Value.slice a5 k c5).ownBlock.toList W5 w'∧Gr B w') 16 (by kernel_rfl) (⟨(Gr.drew (Gr.refl W5)).eF _,X.o.trans (E.o.trans (Gr.drew (Gr.refl W5)))⟩) (fun hU=>?_);refine bR 0 ?_;refine bR 2 ?_;refine bR 4 ?_;refine bR 6 ?_;refine bR 9 ?_;refine bR 1 ?_;refine bR 3 ?_;refine bR 5 ?_;refine bR 7 ?_;refine bR 10 ?_;refine dw [8] ?_;refine(bf.cons rfl (fun K q=>?_) bf.nil);go_simp
      go_at_call 190
      refine(ny _ _ (ae,ah,ai,aj,au,ax,ay) _ (Rd.gr x9.o (vC.o.trans (tg E))) j5.o.1).mono ?_;rintro e w' ⟨es,fq,rfl,hr,O,y,rfl⟩;have vF:=Kz hr;have ym:=Kz O;obtain⟨r0,r1,r2,r3,r4,r5,wP,wZ,xc,rfl⟩:=eO hr;clear hr O;refine q.out _ _ ⟨Gr.eF gd _,X.o.trans (tg E)⟩ (fun kT=>?_);clear q K
      try simp only[Act.put,uq1,uq2,uq3]
      refine dw [11] ?_
      refine(bf.cons rfl (fun K q=>?_) bf.nil);go_simp
      go_at_call 190
      refine(ny _ _ (aL,aN,aS,aV,aZ,bg,bq) _ (Rd.gr yc.o (vC.o.trans (tg E))) j5.o.2).mono ?_;rintro e w' ⟨Ch,dW,rfl,hr,O,y2,rfl⟩;have yo:=Kz hr;have yu:=Kz O;obtain⟨p0,p1,p2,p3,p4,p5,Ci,Ck,Cx,rfl⟩:=eO hr;clear hr O;refine q.out _ _ ⟨Gr.eF gd _,X.o.trans (tg E)⟩ (fun jX=>?_);clear q K
      try simp only[Act.put,uq1,uq2,uq3]
      refine bR 12 ?_
      refine dw [13] ?_
      refine(bf.cons rfl (fun K q=>?_) bf.nil);go_simp;refine q.out _ _ ⟨Gr.eF gd _,X.o.trans (tg E)⟩ (fun jN=>?_);clear q K
      try simp only[Act.put,uq1,uq2,uq3]
      refine dw [14] ?_
      refine(bf.cons rfl (fun K q=>?_) bf.nil);have gD:aY W5 (fq++dW):=ym.o.append (w1:=W5.drew.ext y) (by simp) (fun c hc=>Rd.lt vF.o c hc) yu.o;have gF:=Kz gD;clear gD;refine gU (α:=aD d) (wg:=B) (w0:=W1) (X.o.trans (tg E)) (by omega) (by simp;omega) (by rfl) _ _ _ (by rfl) 213 i2 _ _ Tryz.underlying110 gT.o.1 gT.o.2.1 gT.o.2.2.1 gT.o.2.2.2 rfl (.slice a5 k c5) fps _ (by rfl) (J.o.gr (tg E)) _ [fq++dW] [(q0,q1,(ae,ah,ai,aj,au,ax,ay),(aL,aN,aS,aV,aZ,bg,bq))] (by rfl) (eT.one (w:=(W5.drew.ext y).ext y2) (by simp;omega) ⟨[.string q0],_,[],fq++dW,rfl,rfl,⟨rfl,rfl,HA.o.1⟩,⟨[.string q1],_,[],fq++dW,rfl,rfl,⟨rfl,rfl,HA.o.2⟩,⟨_,_,fq,dW,rfl,rfl,Rd.gr vF.o gd,Rd.gr yo.o gd⟩⟩⟩) (pE (J.o.gr E.o) gF.o) (by rw[HL.o];unfold maxLen;simp;omega) (by rw[HL.o];simp;omega) ?_;intro v9 w9 k1 k2 k3 k4
      obtain⟨a9,c9,fK⟩:=k1.form;have gm:(H.take k++[(q0,q1,(ae,ah,ai,aj,au,ax,ay),(aL,aN,aS,aV,aZ,bg,bq))]).length=k+1:=by rw[List.length_append,HL.o];rfl
      rw[gm] at fK;subst fK;have Z:=(HK.o.gr (tg E)).wr k2 vE.o;have s9:=(HS.o.gr (tg E)).wr k2 (fun c hc=>sF J.o (by have:=j4.o.lt c hc;omega));have vI:=(ky.o.gr (tg E)).wr k2 (fun c hc=>sF J.o (show c<W1.heap.size from by have:=oK.o c hc;omega));have z9:=k2.size;have vL:Wr (Value.slice a5 k c5).ownBlock.toList W5 w9:=(Gr.eF gd _).trans k2;have ku:w9.cell? ⟨bo,5,none⟩=some (.slice a5 k c5):=Z.c 5;have xg:=Z.frozen 5;have xR:=blk ku;have K1:=Kz k1;have K4:=Kz k4;have oq:=Kz Z;have S9:=Kz s9;have yL:=Kz vI;have yN:=Kz vL;clear k1 k2 k3 k4 Z s9 vI gm vL;refine q.out _ _ ⟨yN.o,K4.o⟩ (fun Cy=>?_);clear q K
      try simp only[Act.put,uq1,uq2,uq3]
      refine bR 15 ?_
      refine dw [16] ?_
      refine bf.last rfl (fun K q=>?_)
      go_simp;refine q.out _ _ ?_;clear q K
      try simp only[Act.put,uq1,uq2,uq3]
      refine fF (by kernel_rfl) ?_ _
      go_wp2_with fail;refine⟨⟨k+1,fps++[fq++dW],a9,c9,by omega,Kz (kD U.o J.o.lt dG (gF.o.of_le E.o.size)),K4.o.setCell uL _,Kz (by have:=oq.o.set 5 (.slice a9 (k+1) c9);exact this),?_,Kz (S9.o.setAt bK.o),Kz (yL.o.setAt xS.o),by simp at z9;simp;omega,by go_num⟩,by simp[intOf];omega⟩;have e:H.take (k+1)=H.take k++[(q0,q1,(ae,ah,ai,aj,au,ax,ay),(aL,aN,aS,aV,aZ,bg,bq))]:=by rw[List.take_succ_eq_append_getElem Y,←fw.o]
      rw[e];exact K1.o.GQ (kD U.o J.o.lt dG (gF.o.of_le E.o.size)) ve
     ·have ow:k=H.length:=by omega
      subst ow;have rq:=J.o.fresh (by rw[HL.o];unfold bn;omega) U.o;rw[List.take_length] at rq;obtain⟨yO,s5,vN⟩:=rq;have yQ:=Kz s5;have vO:=Kz vN;obtain⟨y,rfl⟩:=X.o;obtain⟨c0,c1,yT,c3,yX,yY⟩:=HK.o.c6
      try simp only[List.getElem_cons_zero,List.getElem_cons_succ] at c0 c1 yT c3 yX yY
      have gD:aY w (l5++(oG++yO)):=(uR.o.of_le T.size).append (w1:=W2) (by omega) j4.o.lt (uZ.o.append vU oK.o vO.o);have gF:=Kz gD;have F4:=Kz (uZ.o.of_le vR);have F5:=Kz (vO.o.of_le (show B.heap.size≤W1.heap.size by omega));obtain rfl:=EB.o;clear s5 vN gD;go_wp2_with fail;obtain⟨h0,h1⟩:=H0.o
      exact bodyPost_ret (v:=.agg #[.string x0,.string x1,.slice a2 I.length c2,.bool x3,.slice a4 D.length c4,.slice a5 H.length c5])
       (by simp[results,Tryz.results158,go_sem]) rfl ⟨_,_,rfl,pI x0 x1 I x3 D H h0 h1 (SlR.moved HS.o uR.o gd (by simp)) (SlR.moved ky.o F4.o gd (by simp)) (SlR.moved yQ.o F5.o gd (by simp)),gF.o,gd⟩
end Go.Proofs.YtdhighcpmcdmmaaGreat
