/- Contracts and laws towards ReadsOf, part 45 of 54. No condition. -/
import Derived.Test.YtleafadpfeibfaaGreatRx43
import Derived.Test.YtleafadpfeibfaaGreatRx42
set_option maxHeartbeats 32000000
set_option maxRecDepth 10000
set_option linter.unusedVariables false
set_option linter.unusedSimpArgs false
namespace Go.Proofs.YtleafadpfeibfaaGreat
open Go.RowKit
variable{d:Nat}
section
variable{w0:World}{g:af d}{t:List aT}{L:List av}{ag0:Option Addr}{kg0:Nat}{ag1:Option Addr}{kg1:Nat}{at_:Option Addr}{kt:Nat}{aL:Option Addr}{kL:Nat}{bz bv bk bs br f:Nat}
def KA(t:List aT)(bz node by_:Nat)(fp:List Nat)(W:World)(e:Ending)(w':World):Prop:=
 ∃pe pn pb h li q,e=.returned (.agg (JH pe pn pb (zk t node) (.slice h li q)))∧RdB t bz node by_ pe pn pb (.slice h li q) fp w'∧Gr W w'
theorem EC(E:EnvD w0 g t L ag0 kg0 ag1 kg1 at_ kt aL kL){node by_:Nat}(J:node<t.length)(fp:List Nat)(o:Option Eng)(W:World)(hS:ImG w0 g t L ag0 kg0 ag1 kg1 at_ kt aL kL bz bv bk bs br f fp o W):
  Calls Tryz.prog 109 #[.pointer (some ⟨bz,0,none⟩),.int .i64 (node:Int),.int .i64 (by_:Int)] W (KA t bz node by_ fp W):=by
 have HE:=Kz E;obtain⟨s,cyc,hc,-⟩:=hS.core;have HC:=Kz hc;have T:=Kz hc.lt;obtain⟨y0,y1,y2,y3,y9⟩:=hc.fixed;obtain⟨w,hw⟩:=nm (w0);subst hw;obtain⟨ft,vt,ae,ah⟩:=E.ht;obtain rfl:Value.slice at_ t.length kt=vt:=by simpa using ae
 obtain⟨o5,o9,D,-,-,bB⟩:=ah.open;injection D with D _ bH;subst D;subst bH;have ai:=J;have aj:=hc.gr;obtain⟨b,off,rfl,qb⟩:=bB node ai;obtain⟨p0,p1,p2,p3,p4,p5,q8,q9,sO,uf,bR,uo,bX,cB,cK,cO,dB,dS,oH,oL,dV,fe,fu,ak,gD,gT,gV⟩:=KZ ah ai aj;have bL:=Kz (show zk t node=p3 by unfold zk;rw[gG J,←bR.o]);have i0:(0:Int)≤(node:Int):=by omega
 have i1:(node:Int)<(t.length:Int):=by omega
 clear bX cB cK cO dB dS aj ae E hS hc;go_in;go_wp2_with fail;obtain⟨B,I⟩:=nm ((((W.alloc (.cells #[.pointer (some ⟨bz,0,none⟩)] 80)).alloc (.cells #[.int .i64 (node:Int)] 3)).alloc (.cells #[.int .i64 (by_:Int)] 3)).alloc (.cells #[.nilFunc,.nilFunc,.int .i64 0,.slice none 0 0] 173));rw[←I];have gB:Gr W B:=by rw[I];exact gd
 have au:=Kz gB;have VE:=Kz (show az B W.heap.size 80 [.pointer (some ⟨bz,0,none⟩)] by rw[I];exact kv);have VN:=Kz (show az B (W.heap.size+1) 3 [.int .i64 (node:Int)] by rw[I];exact kv);have VP:=Kz (show az B (W.heap.size+1+1) 3 [.int .i64 (by_:Int)] by rw[I];exact kv);have VD:=Kz (show az B (W.heap.size+1+1+1) 173 [.nilFunc,.nilFunc,.int .i64 0,.slice none 0 0] by rw[I];exact kv);have u2:=gB.keep y2;have v3:=gB.keep ak;have e0:B.cell? ⟨W.heap.size,0,none⟩=some (.pointer (some ⟨bz,0,none⟩)):=VE.o.c 0;have e1:B.cell? ⟨W.heap.size+1,0,none⟩=some (.int .i64 (node:Int)):=VN.o.c 0;have zb:=blk y0;have O:=Kz (show bz∉[W.heap.size+1+1+1]∧b∉[W.heap.size+1+1+1]∧W.heap.size∉[W.heap.size+1+1+1]∧W.heap.size+1∉[W.heap.size+1+1+1] from by simp;omega);have k2:=fun(w':World) (h:Wr [W.heap.size+1+1+1] B w')=>h.aO u2 O.o.1
 have U:=fun(w':World) (h:Wr [W.heap.size+1+1+1] B w')=>h.aO v3 O.o.2.1
 have k5:=fun(w':World) (h:Wr [W.heap.size+1+1+1] B w')=>h.aO e0 O.o.2.2.1
 have k6:=fun(w':World) (h:Wr [W.heap.size+1+1+1] B w')=>h.aO e1 O.o.2.2.2
 have HT:=Kz HE.o.ht;clear I gB y0 y1 y2 y3 y9 dV fe fu ak gD gT gV zb;refine wp_region_held_drew (S:=(fun w'=>Wr [W.heap.size+1+1+1] B w')) (by kernel_rfl) ((gd:Gr B B.drew).eF _) (fun lq=>?_);refine aK 0 7 ?_;refine aK 1 8 ?_;refine aK 2 9 ?_;refine aK 7 14 ?_;refine aK 11 18 ?_;refine aK 15 22 ?_;refine aK 3 10 ?_;refine aK 12 19 ?_;refine aK 4 11 ?_;refine aK 13 20 ?_;refine aK 5 12 ?_;refine aK 14 21 ?_;refine aK 6 13 ?_;refine aK 8 15 ?_;refine aK 9 16 ?_;refine aK 10 17 ?_;refine gy [16] ?_;refine AllReadyH.cons rfl (fun K V=>?_) AllReadyH.nil;go_simp
 go_at_call 147
 obtain⟨uq,ax⟩:=HT.o;refine(AB t (node:Int) _ (Rd.gr ax (HC.o.gr.trans (tg au))) HE.o.wt).mono ?_;clear ax;rintro e w4 ⟨v4,ay,rfl,X,aZ,g4⟩;obtain⟨a4,U,rfl,-,-,-⟩:=X.open;have gX:=Kz X;have ik:=Kz aZ;have q:=Kz (Gr.trans gd g4:Gr B w4);clear X aZ g4;refine V.out _ _ (q.o.eF _) (fun uz=>?_);clear V K;have Y:=Kz (VD.o.gr q.o);have f0:=Y.o.frozen;obtain⟨c0,c1,c2,c3⟩:=Y.o.c4
 try simp only[Act.put,uq1,uq2,uq3]
 refine aK 17 24 ?_
 refine gy [18] ?_
 refine AllReadyH.cons rfl (fun K V=>?_) AllReadyH.nil
 go_simp;refine V.out _ _ ?hw (fun ve=>?_)
 case hw=>exact((((q.o.eF _).setCell (by simp) _).setCell (by simp) _).setCell (by simp) _).setCell (by simp) _
 clear V K
 try simp only[Act.put,uq1,uq2,uq3]
 refine wpAnyH_done (by kernel_rfl) ?_ _
 skip;go_simp;go_wp2_with fail;obtain⟨V0,bg⟩:=nm (Value.func (.func 144) #[] #[.pointer (some ⟨W.heap.size,0,none⟩),.pointer (some ⟨W.heap.size+1,0,none⟩),.pointer (some ⟨W.heap.size+1+1,0,none⟩)]);obtain⟨V1,bq⟩:=nm (Value.func (.func 146) #[] #[.pointer (some ⟨W.heap.size,0,none⟩),.pointer (some ⟨W.heap.size+1+1,0,none⟩)]);obtain⟨WF,hF⟩:=nm ((((w4.setCell ⟨W.heap.size+1+1+1,0,none⟩ V0).setCell ⟨W.heap.size+1+1+1,1,none⟩ V1).setCell ⟨W.heap.size+1+1+1,2,none⟩ (.int .i64 p3)).setCell ⟨W.heap.size+1+1+1,3,none⟩ (.slice a4 (iB t (node:Int)).length U));rw[←bg,←bq,←hF];have vF:az WF (W.heap.size+1+1+1) 173 [V0,V1,.int .i64 p3,.slice a4 (iB t (node:Int)).length U]:=by rw[hF];exact az.GD Y.o _ _ _ _
 have wF:Wr [W.heap.size+1+1+1] w4 WF:=by rw[hF];exact Wr.GD _ _ _ _ _ _
 have gF:Gr W WF:=by rw[hF];exact Gr.GD (au.o.trans q.o) (by omega) _ _ _ _
 have vB:=VD.o.lt;obtain⟨iw,kr,ku,ky⟩:=vF.c4;have hq:∀b∈ay,B.heap.size≤b:=fun b hb=>ik.o.2 b hb
 have Z:∀b,W.heap.size≤b→b∉fp:=fun b hb hm=>by have:=T.o b hm;omega
 exact bodyPost_ret (v:=.agg #[V0,V1,.int .i64 p3,.slice a4 (iB t (node:Int)).length U]) (by simp[results,Tryz.results109,go_sem,iw,kr,ku,ky]) rfl
  ⟨W.heap.size,W.heap.size+1,W.heap.size+1+1,a4,(iB t (node:Int)).length,U,by rw[bL.o,bg,bq],
   ⟨(VE.o.gr q.o).wr wF (by simp;omega),(VN.o.gr q.o).wr wF (by simp),(VP.o.gr q.o).wr wF (by simp),⟨ay,gX.o.wr wF (fun b hb hm=>by have h1:=hq b hb;have h2:=List.mem_singleton.1 hm;omega),fun b hb hm=>by have h1:=hq b hb;have h2:=T.o b hm;omega⟩,Z _ (Nat.le_refl _),Z _ (by omega),Z _ (by omega)⟩,gF⟩
end
end Go.Proofs.YtleafadpfeibfaaGreat
namespace Go.Proofs.YtleafadpfeibfaaGreat
open Go.RowKit
variable{d:Nat}
def exF(q:aX d):GE (d+1):=q.2
def exE(xs:List (aX d)):List (GE (d+1)):=xs.map exF
def exC(xs:List (aD d)):List (GE (d+1)):=xs.flatMap fun c=>[c.2.2.1,c.2.2.2]
theorem I1(xs:List (aX d)):(exE xs).length=xs.length:=List.length_map _
theorem I8(xs:List (aD d)):(exC xs).length=2*xs.length:=by
 induction xs with
 |nil=>rfl
 |cons z h q=>
  show(([z.2.2.1,z.2.2.2]:List (GE (d+1)))++exC h).length=_
  rw[List.length_append,q,List.length_cons]
  show 2+2*h.length=_
  omega
theorem Ht(xs:List (aX d)){k:Nat}(h:k<xs.length):exE (xs.take (k+1))=exE (xs.take k)++([xs[k].2]:List (GE (d+1))):=by
 unfold exE;rw[List.take_succ_eq_append_getElem h,List.map_append];rfl
theorem GL(xs:List (aD d)){k:Nat}(h:k<xs.length):exC (xs.take (k+1))=exC (xs.take k)++([xs[k].2.2.1,xs[k].2.2.2]:List (GE (d+1))):=by
 unfold exC;rw[List.take_succ_eq_append_getElem h,List.flatMap_append];rfl
theorem eT.two{α:Type}[Rd α]{w:World}{e:TypeId}{cs q:List Value}{f1 f2:List Nat}{x y:α}{g:Nat}{arr:Array Value}(hg:g=w.heap.size)(I:arr.toList=cs++q)(h1:∀W,Gr w W→Rd.rd f1 W cs x)(J:∀W,Gr w W→Rd.rd f2 W q y):
  eT (α:=α) (w.alloc (.cells arr e)) (.slice (some ⟨g,0,none⟩) 2 2) [f1,f2] [x,y]:=by
 subst hg;have B:Gr w (w.alloc (.cells arr e)):=gd;have h:=(Els.one (h1 _ B)).app (Els.one (J _ B));refine .inr ⟨w.heap.size,0,2,_,rfl,h,fun j u D=>?_⟩;rw[Nat.zero_add,World.cell?_alloc_new];have K:([cs]++[q]).flatten=arr.toList:=by rw[I];simp
 rw[K] at D;simpa using D
theorem yD{fr:List Nat}{cr:Array Value}(r:aW d)(w:World)(hr:Rd.rd fr w cr.toList r)(wF:bF r≤1048576):
  Calls Tryz.prog 224 #[.agg cr] w fun e w'=>∃v fq,e=.returned v∧SlR (α:=GE (d+1)) fq w' v (nH r)∧Gr w w':=by
 obtain⟨i0,hi⟩:=info_parts Tryz.tC;have HZ:=Kz hi;clear hi;obtain⟨r0,r1,r2,r3,q,D,wL,w9,LV,xc,x9,LW,yc,yu,LX,rfl,rfl,-,LY,LZ,L6,Lv,Lx,y7,LA,LB,y8,LC,LD⟩:=KV hr;have zf:=y7.op3;have zg:=y8.op3;clear hr;have zx:r0.size+r1.size+wtL ByteArray.size r2+wtL aU q+wtL aI D≤1048576:=wF;have L8:q.length≤1048576:=by have:=bT aU q;omega
 have L9:D.length≤1048576:=by have:=bT aI D;omega
 clear wF zx;go_in;go_wp2_with fail;generalize hB:(w.alloc (.cells #[.string r0,.string r1,.slice wL r2.length w9,.bool r3,.slice xc q.length x9,.slice yc D.length yu] 128))=B;have gB:Gr w B:=gb hB;obtain⟨Ma,Mc,Md,Me,y9,za⟩:=kb6 hB (w.heap.size) (.string r0) (.string r1) (.slice wL r2.length w9) (.bool r3) (.slice xc q.length x9) (.slice yc D.length yu);have sB:B.heap.size=w.heap.size+1:=szB hB;clear hB;have u4:=y9 _ (gd:Gr B (B.alloc (.cells #[] 165)));have zu:=blk u4;clear u4 zu
 go_loopw [12,3] (fun K s3 wr=>∃(k:Nat) (fps:List (List Nat)),k≤q.length∧Gr B wr∧bE (α:=GE (d+1)) B 165 wr s3 fps (exE (q.take k))∧K=.int .i64 k) (fun K _ _=>q.length - (intOf K).toNat)
 case atStart=>exact⟨0,[],by omega,gd,bE.kF (α:=GE (d+1)) (w0:=B) (w:=B) 165 (Nat.le_refl _) (by omega),rfl⟩
 case round=>
  obtain⟨k,fps,hk,h,hown,rfl⟩:=hrel
  rename World=>W1
  have cK:=Kz h;have HO:=Kz hown;obtain⟨L,hL⟩:∃L:List (GE (d+1)),L=exE (q.take k):=⟨_,rfl⟩;have zy:L.length=k:=by rw[hL,I1,List.length_take];omega
  have Mf:L.length≤1048576:=by omega
  clear zy;obtain⟨ra,rc,I⟩:=hown.form;rw[←hL] at I;subst I;have O:=Kz hL;have dS:=Kz (show∀b,(Value.slice ra L.length rc).ownBlock=some b→B.heap.size≤b from fun b hb=>(hown.base b hb).1);have y4:=y9 _ h;have y5:=za _ h;have zH:=blk y4;have J:=gB.trans h;have cO:=Kz J;clear h hown hL
  by_cases T:k<q.length
  ·skip
   obtain⟨b,off,rfl,zL⟩:=zf k T;obtain⟨Mg,Mh,U,V,X,Y,Z,ae,ah,dV,fe,LF,zO,fu,z8,zl,zn,gD,gF,gT,gV,gX,ik,kr,K6,La,A7,BM,EB,E5,FX,F4,F5,F6,F8,Ha⟩:=KY y7 T J;have zb:=Kz (show Rd.rd (α:=GE (d+1)) _ w [.int .i64 U,.int .i64 V,.int .i64 X,.int .i64 Y,.string Z,.string ae,.slice dV ah.length fe] ((U,V,X,Y,Z,ae,ah):aA d) from bJ U V X Y Z ae ah gD gF gT gV gX ik kr);have k0:(0:Int)≤(k:Int):=by omega
   have k1:(k:Int)<(q.length:Int):=by omega
   have iw:=zI1 k (by omega);have He:=Kz (Rd.lt zb.o);have ku:=Kz (show∀(W:World) (g:Nat) (hg:g=W.heap.size) (hw:Gr w W),eT (α:=GE (d+1)) (W.alloc (.cells #[.int .i64 U,.int .i64 V,.int .i64 X,.int .i64 Y,.string Z,.string ae,.slice dV ah.length fe] 165)) (.slice (some ⟨g,0,none⟩) 1 1) [_] ([((U,V,X,Y,Z,ae,ah):aA d)]:List (GE (d+1))) from fun W g hg hw=>eT.one (α:=GE (d+1)) hg (Rd.gr zb.o (hw.trans gd)))
   have ky:=Kz (show exE (q.take (k+1))=L++([((U,V,X,Y,Z,ae,ah):aA d)]:List (GE (d+1))) by
    rw[Ht q T,O.o,←fu.o])
   clear J zl zn gD gF gT gV gX ik kr
   go_wp2_with (first|(at_builtin;refine bP (α:=GE (d+1)) (w0:=B) (tg cK) rfl _ _ 163 rfl 165 i0 _ _ Tryz.underlying163 HZ.o.1 HZ.o.2.1 HZ.o.2.2.1 HZ.o.2.2.2 rfl _ fps _ (by rfl) (HO.o.gr gd) _ [_] ([((U,V,X,Y,Z,ae,ah):aA d)]:List (GE (d+1))) (by rfl) (ku.o _ _ (by simp) (tg cO)) (fun b hb hm=>by have h1:=dS.o b hb;simp only[List.flatten_cons,List.flatten_nil,List.append_nil] at hm;have h2:=He.o b hm;have h3:=gB.size;omega) (by rw[←O.o];show L.length+1≤maxLen;unfold maxLen;omega) (by rw[←O.o];show(L.length+1)*88≤_;omega) ?_;intro v3 w3 h1 h2 h3 h4;replace h1:=Kz h1;replace h4:=Kz h4;clear h2 h3))
   have dB:=ky.o;rw[O.o] at dB;have H5:=h1.o;rw[←dB] at H5;exact⟨⟨k+1,_,by omega,h4.o,H5,by go_num⟩,by simp[intOf];omega⟩
  ·obtain rfl:k=q.length:=by omega
   rw[List.take_length] at O;have lq:=HO.o;rw[List.take_length,←O.o] at lq;have ze:=Kz lq;clear lq;go_wp2_with fail
   go_loopw [25,3] (fun K s3 wr=>∃(k:Nat) (fps:List (List Nat)),k≤D.length∧Gr B wr∧bE (α:=GE (d+1)) B 165 wr s3 fps (L++exC (D.take k))∧K=.int .i64 k) (fun K _ _=>D.length - (intOf K).toNat)
   case atStart=>exact⟨0,fps,by omega,cK.o,by rw[List.take_zero];show bE _ _ _ _ _ (L++[]);rw[List.append_nil];exact ze.o,rfl⟩
   case round=>
    clear y4 y5 zH cK HO ze J cO dS;obtain⟨k,fps,hk,h,hown,rfl⟩:=hrel
    rename World=>W2
    have cK:=Kz h;have HO:=Kz hown;obtain⟨M,hM⟩:∃M:List (GE (d+1)),M=L++exC (D.take k):=⟨_,rfl⟩
    have Mi:M.length≤3145728:=by
     rw[hM,List.length_append,I8,List.length_take];omega
    obtain⟨HV,HY,I⟩:=hown.form;rw[←hM] at I;subst I;have ai:=Kz hM;have dS:=Kz (show∀b,(Value.slice HV M.length HY).ownBlock=some b→B.heap.size≤b from fun b hb=>(hown.base b hb).1);have y5:=za _ h;have Mj:=blk y5;have J:=gB.trans h;have cO:=Kz J;clear h hown hM
    by_cases T:k<D.length
    ·skip
     obtain⟨b,off,rfl,zL⟩:=zg k T;obtain⟨q0,q1,aj,ak,au,ax,ay,aZ,bg,bq,bB,bH,bL,bR,bX,cB,oH,oL,LG,o5,o9,LH,zO,fu,z8,IV,KX,qb,q8,q9,sO,uf,uo,uq,Li,Lj,uz,ve,vB,vD,vF,vG,vL,Lm,Ls,A7,BM,EB,E5,FX,F4,F5,F6,F8,Mk,LJ,LK,LM,LP,LQ,LU,Ha⟩:=KW y8 T J;have vO:=Kz (show Rd.rd (α:=GE (d+1)) _ w [.int .i64 aj,.int .i64 ak,.int .i64 au,.int .i64 ax,.string ay,.string aZ,.slice oH bg.length oL] ((aj,ak,au,ax,ay,aZ,bg):aA d) from bJ aj ak au ax ay aZ bg qb q8 q9 sO uf uo uq);have vR:=Kz (show Rd.rd (α:=GE (d+1)) _ w [.int .i64 bq,.int .i64 bB,.int .i64 bH,.int .i64 bL,.string bR,.string bX,.slice o5 cB.length o9] ((bq,bB,bH,bL,bR,bX,cB):aA d) from bJ bq bB bH bL bR bX cB uz ve vB vD vF vG vL);have k0:(0:Int)≤(k:Int):=by omega
     have k1:(k:Int)<(D.length:Int):=by omega
     have iw:=zI1 k (by omega);have zo:=Kz (Rd.lt vO.o);have zq:=Kz (Rd.lt vR.o);have ku:=Kz (show∀(W:World) (g:Nat) (hg:g=W.heap.size) (hw:Gr w W),eT (α:=GE (d+1)) (W.alloc (.cells #[.int .i64 aj,.int .i64 ak,.int .i64 au,.int .i64 ax,.string ay,.string aZ,.slice oH bg.length oL,.int .i64 bq,.int .i64 bB,.int .i64 bH,.int .i64 bL,.string bR,.string bX,.slice o5 cB.length o9] 165)) (.slice (some ⟨g,0,none⟩) 2 2) [_,_] ([((aj,ak,au,ax,ay,aZ,bg):aA d),((bq,bB,bH,bL,bR,bX,cB):aA d)]:List (GE (d+1))) from fun W g hg hw=>eT.two (α:=GE (d+1)) hg rfl (fun W2 h2=>Rd.gr vO.o (hw.trans h2)) (fun W2 h2=>Rd.gr vR.o (hw.trans h2)))
     have ky:=Kz (show L++exC (D.take (k+1))=M++([((aj,ak,au,ax,ay,aZ,bg):aA d),((bq,bB,bH,bL,bR,bX,cB):aA d)]:List (GE (d+1))) by
      rw[GL D T,ai.o,List.append_assoc,←fu.o])
     clear J IV KX qb q8 q9 sO uf uo uq uz ve vB vD vF vG vL
     go_wp2_with (first|(at_builtin;refine bP (α:=GE (d+1)) (w0:=B) (tg cK) rfl _ _ 163 rfl 165 i0 _ _ Tryz.underlying163 HZ.o.1 HZ.o.2.1 HZ.o.2.2.1 HZ.o.2.2.2 rfl _ fps _ (by rfl) (HO.o.gr gd) _ [_,_] ([((aj,ak,au,ax,ay,aZ,bg):aA d),((bq,bB,bH,bL,bR,bX,cB):aA d)]:List (GE (d+1))) (by rfl) (ku.o _ _ (by simp) (tg cO)) (fun b hb hm=>by have h1:=dS.o b hb;have h3:=gB.size;rw[List.flatten_cons,List.flatten_cons,List.flatten_nil,List.append_nil,List.mem_append] at hm;exact hm.elim (fun hm=>by have h2:=zo.o b hm;omega) (fun hm=>by have h2:=zq.o b hm;omega)) (by rw[←ai.o];show M.length+2≤maxLen;unfold maxLen;omega) (by rw[←ai.o];show(M.length+2)*88≤_;omega) ?_;intro v3 w3 h1 h2 h3 h4;replace h1:=Kz h1;replace h4:=Kz h4;clear h2 h3))
     have dB:=ky.o;rw[ai.o] at dB;have H5:=h1.o;rw[←dB] at H5;exact⟨⟨k+1,_,by omega,h4.o,H5,by go_num⟩,by simp[intOf];omega⟩
    ·obtain rfl:k=D.length:=by omega
     rw[List.take_length] at ai;have vX:=HO.o;rw[List.take_length,←ai.o] at vX;obtain⟨fz,hz,-⟩:=vX.slR (by unfold bn;omega);have K3:=Kz hz;have K4:=Kz (show nH (r0,r1,r2,r3,q,D)=M by rw[ai.o,O.o];rfl);clear vX hz;go_wp2_with fail;go_ret;exact⟨_,fz,rfl,by rw[K4.o];exact K3.o,cO.o⟩
def JM(d:Nat):Prop:=∀(fg:List Nat) (cg:Array Value) (g:af d) (w:World) (hg:Rd.rd fg w cg.toList g) (q:aP g≤1048576) (hn:0<g.1.length) (h:g.1.length≤1000),
 Calls Tryz.prog 136 #[.agg cg] w fun e w'=>∃v fq,e=.returned v∧SlR fq w' v (hts g g.1.length)∧Gr w w'
theorem JP{ss:List bC}(B:kM Prod.fst ss){i:Nat}(h:i<ss.length):atS ss ss[i].1=i:=
 iH h (by simp) (fun j D q=>by
  have:=B i h j D q;exact decide_eq_false this)
theorem CU{g:af d}(D:kM Prod.fst g.1):Ga g↔∀y∈hts g g.1.length,y≠0:=by
 have hk:=Ay g g.1.length (Nat.le_refl _)
 have hm:∀i (h:i<g.1.length),xC g g.1[i].1=(hts g g.1.length)[i]'(by rw[hk.1];exact h):=by
  intro i h
  unfold xC;rw[JP D h,if_neg (by omega)];simp only[Int.toNat_natCast];rw[List.getD_eq_getElem?_getD,List.getElem?_eq_getElem (by rw[hk.1];exact h)];rfl
 constructor
 ·intro B y I e
  obtain⟨i,hi,rfl⟩:=List.mem_iff_getElem.1 I;have q:i<g.1.length:=by rw[←hk.1];exact hi
  have h1:=B _ (List.getElem_mem q);rw[hm i q,e] at h1;exact absurd h1 (by decide)
 ·intro B s hs
  obtain⟨i,hi,rfl⟩:=List.mem_iff_getElem.1 hs;have q:i<(hts g g.1.length).length:=by rw[hk.1];exact hi
  rw[hm i hi];have h1:=B _ (List.getElem_mem q);have J:=(hk.2 _ (List.getElem_mem q)).1;omega
theorem Br(Z:IE d)(hh:JM d){fg:List Nat}{cg:Array Value}(g:af d)(w:World)(hg:Rd.rd fg w cg.toList g)(hl:aP g≤1048576):
  Calls Tryz.prog 104 #[.agg cg] w (GoodAt g w):=by
 have V:=Kz hl;have bg:=Kz Z;have HH:=Kz hh;clear Z hh;have HG:=Kz hg;obtain⟨g0,g1,ag0,kg0,oL,ag1,kg1,o5,rfl,rfl,-,o9,gD,gF,ai,gT,gV⟩:=yt hg;have bq:=ai.op3;clear hg;have aj:wtL bM g0+wtL bF g1≤1048576:=hl;have qb:g0.length≤1048576:=by have:=bT bM g0;omega
 have q8:g1.length≤1048576:=by have:=bT bF g1;omega
 have HL:=Kz aj;clear hl aj;go_in;go_wp2_with fail;refine(Am bg.o (g0,g1) _ (Rd.gr HG.o gd) V.o).mono ?_;rintro e w' ⟨c,ci,rfl,hc,x1,rfl⟩;have HC:=Kz hc;clear hc
 by_cases J:c=0
 ·subst J
  have K:=Kz (HC.o.1 rfl);clear HC;go_wp2_with fail;generalize hB:((w.alloc (.cells #[.slice ag0 g0.length kg0,.slice ag1 g1.length kg1] 39)).ext x1)=B;have gB:Gr w B:=gb hB;obtain⟨bB,bH⟩:=kb2 hB (w.heap.size) (.slice ag0 g0.length kg0) (.slice ag1 g1.length kg1);clear hB;have ak:0<g0.length:=by have h1:1≤g0.length:=K.o.1.1;omega
  have au:g0.length≤1000:=by have h1:g0.length≤4:=K.o.1.2;omega
  have bL:=Kz ak;have bR:=Kz au;clear ak au
  go_loopw [22] (fun T wr=>∃k:Nat,k≤g1.length∧Ky (∀r∈g1.take k,kW (g0,g1) r)∧Ky (Gr B wr)∧T=.int .i64 k) (fun T _=>g1.length - (intOf T).toNat)
  case atStart=>exact⟨0,by omega,Kz (by simp),Kz (Gr.refl _),rfl⟩
  case round=>
   obtain⟨k,hk,O,I,rfl⟩:=hrel
   rename World=>W3
   have X:=gB.trans I.o;have q:=Kz X;have y0:=bB _ I.o;have y1:=bH _ I.o;have zy:=blk y0
   by_cases D:k<g1.length
   ·have ae:=Kz (fun h=>dD D O.o h)
    have U:=Kz (List.getElem_mem D);have bX:=dI bF g1 D;have cB:=Kz (show bF g1[k]≤1048576 by have:=HL.o;omega);clear bX;obtain⟨b,off,rfl,q9⟩:=bq k D;obtain⟨p0,p1,p2,p3,p4,p5,sO,uf,uo,uq,uz,ve,vB,vD,vF,vG,ah,ax,cK,cO,dB,gX,ik,dS,kr,ku,dV,ky,lq,vL,vO,vR,vX,wF,wL,w9⟩:=Lf ai D X;have ay:=Kz (show bF (p0,p1,p2,p3,p4,p5)≤1048576 by rw[ah.o];exact cB.o);have k0:(0:Int)≤(k:Int):=by omega
    have k1:(k:Int)<(g1.length:Int):=by omega
    have iw:=zI1 k (by omega);obtain⟨M,hM⟩:=nm (pB (kW (g0,g1) (p0,p1,p2,p3,p4,p5)));have Y:=Kz hM;clear X hM cK cO dB dS dV
    cases M with
    |true=>
     go_wp2_with (first|(go_at_call 135;refine(qi (g0,g1) (p0,p1,p2,p3,p4,p5) _ (Rd.gr HG.o (tg q)) (Rd.gr ax.o (tg q)) V.o ay.o).mono ?_;rintro e w' ⟨rfl,x5,rfl⟩;rw[←Y.o]))
     exact⟨⟨k+1,by omega,Kz (ae.o (by rw[←ah.o];exact dx.1 Y.o.symm)),Kz (tg I),by go_num⟩,by simp[intOf];omega⟩
    |false=>
     go_wp2_with (first|(go_at_call 135;refine(qi (g0,g1) (p0,p1,p2,p3,p4,p5) _ (Rd.gr HG.o (tg q)) (Rd.gr ax.o (tg q)) V.o ay.o).mono ?_;rintro e w' ⟨rfl,x5,rfl⟩;rw[←Y.o]))
     exact bodyPost_ret (v:=.tuple #[.int .i64 7,.int .i64 k]) (by simp[results,Tryz.results104,go_sem]) rfl ⟨7,k,rfl,⟨fun h=>absurd h (by decide),fun h=>by
      have h1:=h.2.1 _ U.o;rw[←ah.o] at h1;exact absurd h1 (lM Y.o.symm)⟩,q.o.trans gd⟩
   ·obtain rfl:k=g1.length:=by omega
    rw[List.take_length] at O;have fe:=O;clear O;go_wp2_with fail;refine(HH.o _ _ (g0,g1) _ (Rd.gr HG.o (tg q)) V.o bL.o bR.o).mono ?_;rintro e w' ⟨v,fq,rfl,hs,x5,rfl⟩;have gE:Gr W3 (W3.ext x5):=gd;generalize W3.ext x5=E at hs gE ⊢;have hs:SlR fq E v (hts (g0,g1) g0.length):=hs;obtain⟨H,hH⟩:=nm (hts (g0,g1) g0.length);rw[←hH] at hs;have aZ:=Kz hH;have HS:=Kz hs;obtain⟨a,c,rfl,o1,o2,o3⟩:=hs.open;have fu:=Kz (q.o.trans gE);clear y0 y1 zy hH hs gE;go_wp2_with fail
    go_loopw [35] (fun T wr=>∃k:Nat,k≤H.length∧Ky (∀y∈H.take k,y≠0)∧Ky (Gr E wr)∧T=.int .i64 k) (fun T _=>H.length - (intOf T).toNat)
    case atStart=>exact⟨0,by omega,Kz (by simp),Kz (Gr.refl _),rfl⟩
    case round=>
     clear I q X;obtain⟨k,hk,O,I,rfl⟩:=hrel
     rename World=>W4
     have q:=Kz (fu.o.trans I.o)
     by_cases D:k<H.length
     ·have ae:=Kz (fun h=>dD D O.o h)
      have U:=Kz (List.getElem_mem D);obtain⟨b,off,rfl,hb⟩:=o3 k D;have c1:=I.o.keep (HS.o.fQ D).1;obtain⟨y,hy⟩:=nm (H[k]);rw[←hy] at c1;have HY:=Kz hy;have k0:(0:Int)≤(k:Int):=by omega
      have k1:(k:Int)<(H.length:Int):=by omega
      have iw:=zI1 k (by omega);clear hy
      by_cases J:y=0
      ·have e0:(y==0)=true:=by simp[J]
       have H0:=Kz J;clear J;go_wp2_with fail
       exact bodyPost_ret (v:=.tuple #[.int .i64 8,.int .i64 k]) (by simp[results,Tryz.results104,go_sem]) rfl ⟨8,k,rfl,⟨fun h=>absurd h (by decide),fun h=>by
        have h1:=(CU K.o.2.2.1.2.1).1 h.2.2 y (by show y∈hts (g0,g1) g0.length;rw[←aZ.o,HY.o];exact U.o);exact absurd H0.o h1⟩,q.o.trans gd⟩
      ·have e0:(y==0)=false:=by simpa using J
       have H0:=Kz J;clear J;go_wp2_with fail;exact⟨⟨k+1,by omega,Kz (ae.o (by rw[←HY.o];exact H0.o)),Kz (tg I),by go_num⟩,by simp[intOf];omega⟩
     ·obtain rfl:k=H.length:=by omega
      rw[List.take_length] at O;have HP:=Kz (show Ga (g0,g1) from(CU K.o.2.2.1.2.1).2 (fun y hy=>O.o y (by rw[aZ.o];exact hy)));go_wp2_with fail;exact bodyPost_ret (v:=.tuple #[.int .i64 0,.int .i64 0]) (by simp[results,Tryz.results104,go_sem]) rfl ⟨0,0,rfl,⟨fun _=>⟨K.o,fe.o,HP.o⟩,fun _=>rfl⟩,q.o⟩
 ·have xc:(c==0)=false:=by simpa using J
  have oH:(c !=0)=true:=by simpa using J
  go_wp2_with fail;exact bodyPost_ret (v:=.tuple #[.int .i64 c,.int .i64 ci]) (by simp[results,Tryz.results104,go_sem]) rfl ⟨c,ci,rfl,⟨fun h=>absurd h J,fun h=>absurd (HC.o.2 h.1) J⟩,gd⟩
theorem uu(q:IE d)(I:JM d){fg:List Nat}{cg:Array Value}(g:af d)(w:World)(hg:Rd.rd fg w cg.toList g)(J:aP g≤1048576):
  Qz 74 #[.agg cg] w (.bool (pB (jI g))):=by
 have K:=Kz J;have B:=Kz q;have T:=Kz I;obtain⟨O,h⟩:=nm (pB (jI g));rw[←h];have D:=Kz h;clear h J q I;have U:=Kz hg;obtain⟨g0,g1,ag0,kg0,ae,ag1,kg1,ah,rfl,rfl,-,ai,V,X,aj,Y,Z⟩:=yt hg;clear hg;delta Qz;go_in;go_wp2_with fail;refine(Br B.o T.o (g0,g1) _ (Rd.gr U.o gd) K.o).mono ?_;rintro e w' ⟨c,ci,rfl,hc,x1,rfl⟩;have HF:=Kz (show O=decide (c=0) by rw[D.o];exact lZ hc.symm);clear hc;go_wp2_with fail;go_ret;exact⟨aa (by rw[HF.o];try rfl),gd⟩
end Go.Proofs.YtleafadpfeibfaaGreat
