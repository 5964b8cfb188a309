/- Contracts and laws towards ReadsOf, part 35 of 54. No condition. -/
import Derived.Test.YtdhighcpmcdmmaaGreatFx29
import Derived.Test.YtdhighcpmcdmmaaGreatFx31
set_option maxHeartbeats 32000000
set_option maxRecDepth 10000
set_option linter.unusedVariables false
set_option linter.unusedSimpArgs false
namespace Go.Proofs.YtdhighcpmcdmmaaGreat
open Go.RowKit
variable{d:Nat}
variable{x:Int}
def opW(o x y:Int):Int:=
 if o=1 then sat (wrap64 (x+y)) else if o=2 then sat (wrap64 (x - y)) else if o=3 then sat (wrap64 (x*y)) else if o=4 then max x y else if o=5 then min x y
 else if o=6 then bits .or .i64 x y else if o=7 then bits .and .i64 x y else if o=8 then bits .andNot .i64 x y
 else if o=9 then(if x<y then 1 else 0) else if o=10 then(if x=y then 1 else 0)
 else if o=11 then(if (0≤y∧y≤11)∧bits .and .i64 (x / 2 ^ y.toNat) 1=1 then 1 else 0)
 else if o=12 then(if 0≤y∧y≤11 then bits .or .i64 x (wrap64 (2 ^ y.toNat)) else x) else 0
def opV(o a b:Int):Int:=opW o (mY a (opT o).1) (mY b (opT o).2.1)
theorem pY(h:-9223372036854775808≤x∧x≤9223372036854775807):(Lit.int .i64 x).wf=true:=by
 have q:IntKind.i64.min= -9223372036854775808:=by decide
 have s:IntKind.i64.max=9223372036854775807:=by decide
 unfold Lit.wf;simp only[q,s,Bool.and_eq_true,decide_eq_true_eq];exact h
theorem Bd(x:Int):(Lit.int .i64 (sat x)).wf=true:=pY (by unfold sat;omega)
theorem H6(h:(Lit.int .i64 x).wf=true):-9223372036854775808≤x∧x≤9223372036854775807:=by
 have q:IntKind.i64.min= -9223372036854775808:=by decide
 have s:IntKind.i64.max=9223372036854775807:=by decide
 unfold Lit.wf at h;simp only[q,s,Bool.and_eq_true,decide_eq_true_eq] at h;exact h
theorem EF(v k:Int):(Lit.int .i64 (mY v k)).wf=true:=by
 unfold mY
 split
 ·exact Bd v
 ·split
  ·exact wf_bits _ _ _ _
  ·split
   ·split<;>exact pY (by omega)
   ·split
    ·split<;>exact pY (by omega)
    ·exact pY (by omega)
theorem JQ(o:Int){y:Int}(E:(Lit.int .i64 x).wf=true)(X:(Lit.int .i64 y).wf=true):(Lit.int .i64 (opW o x y)).wf=true:=by
 have Y:=H6 E;have Z:=H6 X;unfold opW
 by_cases H:o=1
 ·rw[if_pos H]
  exact Bd _
 rw[if_neg H]
 by_cases I:o=2
 ·rw[if_pos I]
  exact Bd _
 rw[if_neg I]
 by_cases J:o=3
 ·rw[if_pos J]
  exact Bd _
 rw[if_neg J]
 by_cases K:o=4
 ·rw[if_pos K]
  exact pY (by omega)
 rw[if_neg K]
 by_cases O:o=5
 ·rw[if_pos O]
  exact pY (by omega)
 rw[if_neg O]
 by_cases T:o=6
 ·rw[if_pos T]
  exact wf_bits _ _ _ _
 rw[if_neg T]
 by_cases U:o=7
 ·rw[if_pos U]
  exact wf_bits _ _ _ _
 rw[if_neg U]
 by_cases h:o=8
 ·rw[if_pos h]
  exact wf_bits _ _ _ _
 rw[if_neg h]
 by_cases q:o=9
 ·rw[if_pos q]
  split<;>exact pY (by omega)
 rw[if_neg q]
 by_cases s:o=10
 ·rw[if_pos s]
  split<;>exact pY (by omega)
 rw[if_neg s]
 by_cases B:o=11
 ·rw[if_pos B]
  split<;>exact pY (by omega)
 rw[if_neg B]
 by_cases D:o=12
 ·rw[if_pos D]
  split
  ·exact wf_bits _ _ _ _
  ·exact E
 rw[if_neg D];exact pY (by omega)
section
variable{τ:Type}(A:τ→ag→Option (Int×τ))(R:τ→Int→ByteArray→ByteArray→Option (Int×τ))(lit:Int)(ids:List Int)
def evE:(n:Nat)→GE n→τ→Option (Int×τ)
 |0,x,_=>PEmpty.elim x
 |n+1,x,s=>(fun y:aA n=>
  if y.1=1 then some (y.2.1,s)
  else if y.1=2 then some (lit,s)
  else if y.1=3 then A s (y.2.2.1,y.2.2.2.2.2.1)
  else if y.1=4 then(match y.2.2.2.2.2.2 with
   |[a,b]=>(evE n a s).bind fun p=>(evE n b p.2).bind fun q=>some (opV y.2.1 p.1 q.1,q.2)
   |_=>none)
  else if y.1=5 then(match y.2.2.2.2.2.2 with
   |[a,b,c]=>(evE n a s).bind fun p=>if p.1=0 then evE n c p.2 else evE n b p.2
   |_=>none)
  else if y.1=6 then some (ids.getD y.2.2.1.toNat 0,s)
  else if y.1=8 then(match y.2.2.2.2.2.2 with
   |[a]=>(evE n a s).bind fun p=>R p.2 p.1 y.2.2.2.2.1 y.2.2.2.2.2.1
   |_=>none)
  else some (0,s)) x
end
def KF(t:List aT)(i:Int)(o:ag):Option av:=
 match nth t i with
 |none=>none
 |some n=>if o.1=0 then some (n.1,o.2) else if 1≤o.1∧o.1≤n.2.2.2.2.2.length then(match nth t (n.2.2.2.2.2.getD (o.1 - 1).toNat (-1)) with|none=>none|some m=>some (m.1,o.2)) else none
def iN:av:=(0,ByteArray.empty)
structure Eng where
 vals:List Int
 st:List Nat
 reads:List (List Nat)
 steps:Int
def Eng.rd(s:Eng)(k h:Int):Eng:=if 0≤h then{s with reads:=s.reads.set h.toNat (s.reads.getD h.toNat []++[k.toNat])} else s
def Eng.mark(s:Eng)(k:Nat):Eng:={s with st:=s.st.set k 1}
def Eng.done(s:Eng)(k:Nat)(v:Int):Eng:={s with st:=s.st.set k 2,vals:=s.vals.set k v,steps:=s.steps+1}
def Eng.new(n:Nat):Eng:=⟨List.replicate n 0,List.replicate n 0,List.replicate n [],0⟩
abbrev Res:=Option (Int×Eng)
def getTop(C:Eng→Nat→Res)(s:Eng)(k h:Int):Res:=
 if k<0 then some (0,s)
 else if s.st.getD k.toNat 0=2 then some (s.vals.getD k.toNat 0,s.rd k h)
 else if s.st.getD k.toNat 0=1 then none
 else(C ((s.rd k h).mark k.toNat) k.toNat).bind fun p=>some (p.1,p.2.done k.toNat p.1)
section
variable(g:af d)(t:List aT)(L:List av)(G:Eng→Int→Int→Res)
def JN(node:Nat)(h:Int)(s:Eng)(o:ag):Res:=G s (gL L ((KF t node o).getD iN)) h
def Gy(h:Int)(s:Eng)(id:Int)(sym nm:ByteArray):Res:=if zB g t (dQ t id)=sym then G s (gL L (id,nm)) h else some (0,s)
def zk(node:Nat):Int:=match nth t (node:Int) with|none=>0|some n=>n.2.2.2.1
def eX(node:Nat)(h:Int)(n:Nat)(x:GE n)(s:Eng):Res:=evE (JN t L G node h) (Gy g t L G h) (zk t node) (iB t node) n x s
def gp(x:av)(sym:ByteArray)(node:Nat)(h:Int)(o:Res)(c:aD d):Res:=
 if c.1=sym∧c.2.1=x.2 then o.bind fun p=>(eX g t L G node h (d+1) c.2.2.1 p.2).bind fun q=>
  if q.1=x.1 then(eX g t L G node h (d+1) c.2.2.2 q.2).bind fun r=>some (bits .or .i64 p.1 r.1,r.2) else some (p.1,q.2)
 else o
def nT(node:Nat):List (aD d):=match nth t (node:Int) with|none=>[]|some n=>((dJ g.2 n.2.2.2.2.1).getD fH).2.2.2.2.2
def jQ(x:av)(sym:ByteArray)(h:Int)(o:Res)(node:Nat):Res:=(nT g t node).foldl (gp g t L G x sym node h) o
def BA(x:av)(k:Nat)(s:Eng):Res:=(List.range t.length).foldl (jQ g t L G x (zB g t (dQ t x.1)) k) (some (0,s))
def KM(s:Eng)(k:Nat):Res:=
 let x:=L.getD k iN
 if ((ed g t x).getD dR).2.2.1=3 then BA g t L G x k s
 else match dS g t x with
  |none=>some (0,s)
  |some p=>eX g t L G p.1.toNat k (d+1) p.2 s
end
def yH(g:af d)(t:List aT)(L:List av):Nat→Eng→Int→Int→Res
 |0=>getTop fun _ _=>none
 |f+1=>getTop (KM g t L (yH g t L f))
set_option maxRecDepth 100000 in
theorem yB{fg:List Nat}{cg:Array Value}(g:(af d)){ft:List Nat}{ct:Array Value}(t:fU)(w:World)(D:Rd.rd fg w cg.toList g)(ht:Rd.rd ft w ct.toList t)(hl:aP g≤1048576):
  Calls Tryz.prog 43 #[.agg cg,.agg ct] w (p8 w (bU g t)):=by
 obtain⟨i0,hi⟩:=info_parts Tryz.o6;have HZ:=Kz hi;clear hi;have bK:=Kz hl;clear hl;have HG:=Kz D;obtain⟨q,s,bL,bN,oq,bV,cK,ow,rfl,rfl,-,oz,mo,mq,oG,mr,mH⟩:=yt D;clear D;have HT:=Kz ht;obtain⟨t0,cO,dz,oH,rfl,rfl,-,dA,mZ,nz⟩:=K8 ht;have gM:=dA.op3;clear ht
 by_cases J:fP (q,s) t0=true
 ·have ai:=Kz J
  have hlen:t0.length≤16:=(jv.1 J).1.2;clear J;go_in;go_wp2_with fail;refine(nG (q,s) t0 _ (Rd.gr HG.o gd) (Rd.gr HT.o gd)).mono ?_;rintro e w' ⟨rfl,x1,rfl⟩;rw[ai.o];go_wp2_with fail;generalize hB:((w.alloc (.cells #[.slice bL q.length bN,.slice bV s.length cK] 36)).alloc (.cells #[.slice cO t0.length dz] 40))=B;have gB:Gr w B:=gb hB;obtain⟨dC,dG⟩:=kb2 hB (w.heap.size) (.slice bL q.length bN) (.slice bV s.length cK);have dL:=kb hB (w.heap.size+1) 0 (.slice cO t0.length dz);have sB:B.heap.size=w.heap.size+2:=szB hB;clear hB
  go_loopw [21,5] (fun aj s5 wr=>∃(k:Nat) (fps:List (List Nat)),k≤t0.length∧Ky (fps.flatten=[])∧Gr B wr∧bE (α:=av) B 63 wr s5 fps ((t0.take k).flatMap (ll (q,s)))∧aj=.int .i64 k) (fun aj _ _=>t0.length - (intOf aj).toNat)
  case atStart=>exact⟨0,[],by omega,Kz rfl,gd,(bE.kF (α:=av) (w0:=B) (w:=B) 63 (Nat.le_refl _) (by omega)).gr gd,rfl⟩
  case round=>
   obtain⟨k,fps,hk,HF,D,hown,rfl⟩:=hrel
   rename World=>W1
   have H:=Kz D;have HO:=Kz hown;obtain⟨X,rc,E⟩:=hown.form;obtain⟨L,hL⟩:=nm ((t0.take k).flatMap (ll (q,s)));have oK:L.length≤16777216:=by rw[hL];exact yZ bK.o ai.o k
   rw[←hL] at E;have HL:=Kz hL;have y0:=dC _ D;have y1:=dG _ D;have y2:=dL _ D;subst E;clear D hown hL
   by_cases I:k<t0.length
   ·have au:Gr w W1:=gB.trans H.o
    have gT:=Kz au;obtain⟨b,off,rfl,Z⟩:=gM k I;obtain⟨q0,q1,q2,q3,q4,q5,ik,iw,oL,oN,dU,oV,dW,jN,jX,j4,j5,ku,nM,nO,oW,o9,pG,pM,pR,pV,p9⟩:=KZ dA I au;have kz:=Kz dW;clear au dW jN jX j4 j5 ku;have j0:(0:Int)≤(k:Int):=by omega
    have j1:(k:Int)<(t0.length:Int):=by omega
    have hs:zB (q,s) t0 (k:Int)=leftOf (q,s) (q0,q1,q2,q3,q4,q5):=by unfold zB;rw[gG I,←dU.o]
    have HS:=Kz hs;obtain⟨Y,hY⟩:=nm ((bW q (leftOf (q,s) (q0,q1,q2,q3,q4,q5))).getD dE);have ax:=Kz hY;clear hs hY;go_wp2_with fail;generalize aL:W1.alloc (.cells #[.int .i64 q0,.int .i64 q1,.int .i64 q2,.int .i64 q3,.string q4,.slice ik q5.length iw] 107)=W5;have g5:Gr W1 W5:=gb aL;have kE:W5.cell? ⟨W1.heap.size,0,none⟩=some (.int .i64 q0):=by rw[←aL];exact aJ rfl rfl
    have k0:=fun(w':World) (h:Gr W5 w')=>h.keep (g5.keep y0)
    have k1:=fun(w':World) (h:Gr W5 w')=>h.keep (g5.keep y1)
    have k2:=fun(w':World) (h:Gr W5 w')=>h.keep (g5.keep y2)
    have aN:=Kz g5;have O:=Kz (gT.o.trans g5);clear aL g5
    go_cut [8] (fun s8 wr=>mK w W5 Y s8 wr)
    case first=>
     go_region_held3 (fun w'=>Gr W5 w') (exact ga)
      (first|(go_at_call 93;refine(jM (q,s) t0 (k:Int) _ (Rd.gr HG.o (O.o.trans ga)) (Rd.gr HT.o (O.o.trans ga))).mono ?_;rintro e w' ⟨rfl,x2,rfl⟩;rw[HS.o])|(go_at_call 94;refine(dY (q,s) (leftOf (q,s) (q0,q1,q2,q3,q4,q5)) _ (Rd.gr HG.o (O.o.trans ga))).mono ?_;rintro e w' ⟨es,fq,rfl,hr,eH,x3,rfl⟩;obtain⟨r0,r1,kL,kQ,fe,aS,rfl,kS,kT,aV,nP,nS⟩:=Lg (x:=(bW q (leftOf (q,s) (q0,q1,q2,q3,q4,q5))).getD dE) hr;have kV:=Kz aS;have qo:=Lt aS hr;clear hr aS;obtain⟨bb,Z⟩:∃b:Bool,b=(bW q (leftOf (q,s) (q0,q1,q2,q3,q4,q5))).isSome:=⟨_,rfl⟩;rw[←Z];have qD:=Kz Z;clear Z;have kX:=Kz eH;clear eH))
     all_goals
      go_wp2_with fail;go_meet;have hY:Y=(r0,r1):=ax.o.trans kV.o.symm;subst hY;have K:∀c∈fe,c<w.heap.size∨_≤c:=fun c hc=>(kX.o c (by rw[kS.o];simpa using hc)).imp (Rd.lt HG.o c) id
      have qE:=O.o.size;refine⟨_,.slice kL r1.length kQ,fe,rfl,gd,?_,?_,?_,kT,by first|omega|(simp;done)|(simp;omega),fun c hc=>(K c hc).imp id (fun h=>by simp at h;omega)⟩
      ·exact kd
      ·exact kd
      ·first
        |(refine aV.gr ?_;(repeat(first|exact Gr.refl _|apply Gr.ext|apply Gr.alloc|apply Gr.drew));done)
        |((with_reducible refine aV.mono (dO ?_));exact fun c hc e=>by subst e;have:=K _ hc;simp at this;omega)
        |((with_reducible refine aV.mono (dM ?_));exact fun c hc e=>by subst e;have:=K _ hc;simp at this;omega)
    case rest=>
     obtain⟨b8,v8,fr,rfl,aZ,d0,d1,sl,-,nZ,T⟩:=hcut
     rename World=>W6
     obtain⟨ay,ky,rfl,qG,qN,kZ⟩:=sl.open;have lq:=Kz sl;have bg:=Kz aZ;have qR:Y.2.length≤1048576:=by have:=bK.o;rw[ax.o];exact xn (Nat.le_trans (Nat.le_add_right _ _) this) _
     have fu:∀b,(Value.slice X L.length rc).ownBlock=some b→B.heap.size≤b∧b<W1.heap.size:=HO.o.base;have fw:=Kz fu;have qV:=aN.o.size;have d5:=aZ.keep kE
     have bq:∀c∈fr,c∉(Value.slice X L.length rc).ownBlock.toList:=fun c hc hm=>by
      have h1:=fw.o c (by simpa using hm);have:=gB.size;rcases T c hc with h|h<;>omega
     have bB:=Kz bq;have K:W1.heap.size∉(Value.slice X L.length rc).ownBlock.toList:=fun hm=>by have:=fw.o _ (by simpa using hm);omega
     have fA:=Kz K;obtain⟨O0,bD⟩:=nm ((Value.slice X L.length rc).ownBlock);rw[←bD] at bB fA;have lG:=Kz bD;clear k0 k1 k2 sl aZ fu bq K T bD;go_wp2_with fail
     go_loopw [38,5] (fun bH s5 wr=>∃(j:Nat) (fps:List (List Nat)),j≤Y.2.length∧Ky (fps.flatten=[])∧Gr B wr∧Wr O0.toList W6 wr∧Ky (s5.ownBlock=O0∨∃n,s5.ownBlock=some n∧W6.heap.size≤n)∧bE (α:=av) B 63 wr s5 fps (L++(Y.2.take j).map (fun a=>(q0,a.1)))∧bH=.int .i64 j) (fun bH _ _=>Y.2.length - (intOf bH).toNat)
     case atStart=>exact⟨0,fps,by omega,HF,H.o.trans (aN.o.trans bg.o),Wr.refl _ _,Kz (.inl lG.o.symm),by simpa[HL.o] using HO.o.gr (aN.o.trans bg.o),rfl⟩
     case round=>
      obtain⟨j,fps,hj,HF,D,ae,HV,hown,rfl⟩:=hrel
      rename World=>W7
      have H:=Kz D;have fK:=Kz ae;have HO:=Kz hown;obtain⟨X,rc,E⟩:=hown.form;obtain⟨M,hM⟩:=nm (L++(Y.2.take j).map (fun a=>(q0,a.1)));have qX:M.length≤17825792:=by rw[hM,List.length_append,List.length_map,List.length_take];omega
      rw[←hM] at E;have HM:=Kz hM;have y0:=dC _ D;have y1:=dG _ D;have y2:=dL _ D;have e5:=ae.aO d5 fA.o;have rf:=blk e5;have U:=lq.o.wr ae bB.o;have lV:=Kz U;clear D ae hown hM U;subst E
      by_cases gm:j<Y.2.length
      ·have I:=gm
       have U:=lV.o;obtain⟨bp,oh,rfl,oo⟩:=kZ j I;obtain⟨p0,p1,p2,p3,l5,rq,gD,l6,l7,rD,rE,rR,rT,sw⟩:=K5 U I (Gr.refl _);have gF:=Kz (And.intro kz.o gD);clear U gD l6 l7;have sG:(0:Int)≤(j:Int):=by omega
       have sH:(j:Int)<(Y.2.length:Int):=by omega
       go_wp2_with (first|(at_builtin;refine eU (α:=av) (wg:=B) (w0:=B) (tg H) (Nat.le_refl _) (tg H).size rfl _ _ 58 rfl 63 i0 _ _ Tryz.underlying58 HZ.o.1 HZ.o.2.1 HZ.o.2.2.1 HZ.o.2.2.2 rfl _ fps _ (by rfl) (HO.o.gr gd) _ [[]] [(q0,p0)] (by rfl) (eT.one (by simp) (bZ q0 p0 gF.o.1 gF.o.2)) (fun b _=>by simp) (by rw[←HM.o];unfold maxLen;simp;omega) (by rw[←HM.o];simp;omega) ?_;intro v9 w9 k1 k2 k3 k4;replace k1:=Kz k1;replace k2:=Kz k2;replace k3:=Kz k3;replace k4:=Kz k4))
       have ah:Wr (Value.slice X M.length rc).ownBlock.toList _ w9:=k2.o;have gH:v9.ownBlock=(Value.slice X M.length rc).ownBlock∨_:=k3.o;have l8:=Kz ah;have ma:=Kz gH;clear ah gH;refine⟨⟨j+1,fps++[[]],by omega,Kz (by rw[List.flatten_append,HF.o];rfl),k4.o,fK.o.more HV.o (((gd:Gr W7 _).eF _).trans l8.o),Kz (tq HV.o ma.o (Nat.le_trans fK.o.size (by simp<;>omega))),?_,by go_num⟩,by simp[intOf];omega⟩
       have e:L++(Y.2.take (j+1)).map (fun a=>(q0,a.1))=M++[(q0,p0)]:=by
        rw[List.take_succ_eq_append_getElem gm,List.map_append,←List.append_assoc,←HM.o,←l5.o];rfl
       have h1:=k1.o;rw[←HM.o] at h1;rw[e];exact h1
      ·have mf:j=Y.2.length:=by omega
       subst mf;go_wp2_with fail;refine⟨⟨k+1,fps,by omega,HF,H.o.trans gd,?_,by go_num⟩,by simp[intOf];omega⟩
       have e:(t0.take (k+1)).flatMap (ll (q,s))=M:=by
        rw[List.take_succ_eq_append_getElem I,List.flatMap_append,←HL.o,HM.o,List.take_length,←dU.o,List.flatMap_cons,List.flatMap_nil,List.append_nil];unfold ll;rw[←ax.o]
       have h1:=HO.o;rw[←HM.o] at h1;rw[e];exact h1.gr gd
   ·have ah:k=t0.length:=by omega
    subst ah;have hI:bU (q,s) t0=L:=by unfold bU;rw[if_pos ai.o,HL.o,List.take_length]
    have HI:=Kz hI;have T:=HO.o.fresh (by rw[←HL.o];unfold bn;omega) (by rw[HF.o];exact aY.nil _);rw[←HL.o] at T;obtain⟨fq,hs,hf⟩:=T;have HS:=Kz hs;have mh:=Kz (hf.of_le gB.size);clear hI hs hf;go_wp2_with fail;go_ret;exact⟨_,fq,rfl,by rw[HI.o];exact HS.o.gr gd,mh.o,gB.trans (tg H)⟩
 ·have hI:bU (q,s) t0=[]:=by unfold bU;rw[if_neg J]
  have HI:=Kz hI;have hb:fP (q,s) t0=false:=eq_false_of_ne_true J;have HB:=Kz hb;clear hI J hb;go_in;go_wp2_with fail;refine(nG (q,s) t0 _ (Rd.gr HG.o gd) (Rd.gr HT.o gd)).mono ?_;rintro e w' ⟨rfl,x1,rfl⟩;rw[HB.o];go_wp2_with fail;go_ret;exact⟨_,[],rfl,by rw[HI.o];exact⟨_,0,rfl,by simp,by simp,.inl ⟨rfl,rfl⟩⟩,aY.nil _,gd⟩
theorem DT{fp:List Nat}{cs:Array Value}(x:aX d)(o:ag)(b:Nat)(w:World)(J:Rd.rd fp w cs.toList x)(I:w.cell? ⟨b,0,none⟩=some (.int .i64 o.1))(K:w.cell? ⟨b,1,none⟩=some (.string o.2)):
  Qz 289 #[.agg cs,.pointer (some ⟨b,0,none⟩)] w (.bool (decide (x.1=o))):=by
 obtain⟨q,h,aN,aS,aV,aZ,bg,bq,bB,U,X,Y,rfl,rfl,-,Z,ae,ah,ai,aj,au,ax,ay,aL,O,T⟩:=Ll J;clear J;obtain⟨H,B⟩:=o;have bD:=blk I;simp only at I K
 by_cases D:q=H
 ·by_cases E:h=B
  ·have e0:(q==H)=true:=by simp[D]
   have e1:(h.toList==B.toList)=true:=by simp[E]
   have s:=Kz (show decide ((q,h)=(H,B))=true by rw[D,E];simp);subst D;subst E;delta Qz;go_in;go_wp2_with fail;go_ret;exact⟨aa (by first|exact s.o.symm|rfl|(rw[s.o];simp)),gd⟩
  ·have hn:h.toList≠B.toList:=fun e=>E (str_inj e)
   have s:=Kz (show decide ((q,h)=(H,B))=false by simp[E]);clear E;subst D;delta Qz;go_in;go_wp2_with fail;go_ret;exact⟨aa (by first|exact s.o.symm|rfl|exact(decide_eq_false (fun e=>hn (congrArg ByteArray.toList e))).symm),gd⟩
 ·have s:=Kz (show decide ((q,h)=(H,B))=false by simp[D])
  delta Qz;go_in;go_wp2_with fail;go_ret;exact⟨aa (by first|exact s.o.symm|rfl|(rw[s.o];simp[D])),gd⟩
theorem DY{fp:List Nat}{cs:Array Value}(x:aX d)(o:ag)(b:Nat)(w:World)(J:Rd.rd fp w cs.toList x)(I:w.cell? ⟨b,0,none⟩=some (.int .i64 o.1))(K:w.cell? ⟨b,1,none⟩=some (.string o.2)):
  Qz 290 #[.agg cs,.pointer (some ⟨b,0,none⟩)] w (.bool (decide (x.1=o))):=by
 obtain⟨q,h,aN,aS,aV,aZ,bg,bq,bB,U,X,Y,rfl,rfl,-,Z,ae,ah,ai,aj,au,ax,ay,aL,O,T⟩:=Ll J;clear J;obtain⟨H,B⟩:=o;have bD:=blk I;simp only at I K
 by_cases D:q=H
 ·by_cases E:h=B
  ·have e0:(q==H)=true:=by simp[D]
   have e1:(h.toList==B.toList)=true:=by simp[E]
   have s:=Kz (show decide ((q,h)=(H,B))=true by rw[D,E];simp);subst D;subst E;delta Qz;go_in;go_wp2_with fail;go_ret;exact⟨aa (by first|exact s.o.symm|rfl|(rw[s.o];simp)),gd⟩
  ·have hn:h.toList≠B.toList:=fun e=>E (str_inj e)
   have s:=Kz (show decide ((q,h)=(H,B))=false by simp[E]);clear E;subst D;delta Qz;go_in;go_wp2_with fail;go_ret;exact⟨aa (by first|exact s.o.symm|rfl|exact(decide_eq_false (fun e=>hn (congrArg ByteArray.toList e))).symm),gd⟩
 ·have s:=Kz (show decide ((q,h)=(H,B))=false by simp[D])
  delta Qz;go_in;go_wp2_with fail;go_ret;exact⟨aa (by first|exact s.o.symm|rfl|(rw[s.o];simp[D])),gd⟩
theorem any_eq{es:List (aX d)}{o:ag}:(es.any fun q=>decide (q.1=o))=pB (∃q∈es,q.1=o):=by
 rw[Bool.eq_iff_iff,dx,List.any_eq_true];constructor
 ·rintro⟨x,h,s⟩;exact⟨x,h,of_decide_eq_true s⟩
 ·rintro⟨x,h,s⟩;exact⟨x,h,decide_eq_true s⟩
theorem FU{fo:List Nat}{co:Array Value}(o:ag)(es:List (aX d)){U:List Nat}{I:Value}(b:Nat)(w:World)(J:Rd.rd fo w co.toList o)(he:SlR U w I es)(X:w.cell? ⟨b,4,none⟩=some I):
  Qz 287 #[.agg co,.pointer (some ⟨b,0,none⟩)] w (.bool (!pB (∃q∈es,q.1=o))):=by
 obtain⟨s,D,rfl,rfl,-,ah,ai⟩:=KT J;clear J;have Y:=Kz he;obtain⟨ae,ke,rfl,-,-,-⟩:=he.open;have h:=blk X;clear he;delta Qz;go_in;go_wp2_with fail;generalize H:w.alloc (.cells #[.int .i64 s,.string D] 132)=B;have K:Gr w B:=gb H;have O:=Kz (show az B w.heap.size 132 [.int .i64 s,.string D] from by rw[←H];exact az.new rfl);have E:=Kz K;clear H K
 have Z:=Kz (show TestEquation B 289 #[.pointer (some ⟨w.heap.size,0,none⟩)] (fun q=>decide (q.1=(s,D))) es from
  ⟨Tryz.call289,fun z _ x fp cs hr=>DT z (s,D) w.heap.size _ hr ((O.o.gr gd).c 0) ((O.o.gr gd).c 1)⟩)
 refine(jO _ _ es _ _ (fun q=>decide (q.1=(s,D))) _ (Y.o.gr E.o) Z.o).mono ?_;rintro e w' ⟨rfl,x2,rfl⟩;rw[any_eq];obtain⟨bb,h⟩:∃b:Bool,b=pB (∃q∈es,q.1=(s,D)):=⟨_,rfl⟩;rw[←h];have T:=Kz h;clear h;go_wp2_with fail;go_ret;exact⟨aa (by rw[T.o]),E.o.trans gd⟩
theorem LV{fg fr:List Nat}{cg cr:Array Value}(g:af d)(r:aW d)(w:World)(hg:Rd.rd fg w cg.toList g)(hr:Rd.rd fr w cr.toList r)(hl:aP g≤1048576)(U:bF r≤1048576):
  Qz 246 #[.agg cg,.agg cr] w (.bool (!pB (FL g r))):=by
 have aj:=Kz hl;have HG:=Kz hg;obtain⟨K,O,au,ax,cK,ay,aL,cO,rfl,rfl,-,dz,aZ,bg,dA,bq,bB⟩:=yt hg;clear hg;have HR:=Kz hr;obtain⟨D,E,s,J,h,H,X,Y,dC,Z,ae,dG,ah,ai,dL,rfl,rfl,-,dU,dW,eH,bD,bH,aN,bK,bL,fe,bN,bV⟩:=KV hr;clear hr
 have aS:s.length≤1048576:=by
  have h1:D.size+E.size+wtL ByteArray.size s+wtL aU h+wtL aI H≤1048576:=U;have h2:=bT ByteArray.size s;omega
 clear hl U;delta Qz;go_in;go_wp2_with fail;generalize hB:((w.alloc (.cells #[.slice au K.length ax,.slice ay O.length aL] 36)).alloc (.cells #[.string D,.string E,.slice X s.length Y,.bool J,.slice Z h.length ae,.slice ah H.length ai] 112))=B;have gB:Gr w B:=gb hB;have VR:=Kz (show az B (w.heap.size+1) 112 [.string D,.string E,.slice X s.length Y,.bool J,.slice Z h.length ae,.slice ah H.length ai] from by rw[←hB];exact az.new (by simp));have I:=Kz gB;clear hB gB;refine(uQ (K,O) (D,E,s,J,h,H) _ (Rd.gr HG.o I.o) (Rd.gr HR.o I.o) aj.o aS).mono ?_;rintro e w' ⟨v,fq,rfl,hs,hf,x1,rfl⟩;have HS:=Kz hs;obtain⟨aq,kq,rfl,-,-,-⟩:=hs.open;clear hs hf
 have HT:=Kz (show TestOccurrence (B.ext x1) 287 #[.pointer (some ⟨w.heap.size+1,0,none⟩)] (fun o=>!pB (∃q∈h,q.1=o)) (mg (K,O) (D,E,s,J,h,H)) from
  ⟨Tryz.call287,fun z _ x fp cs hz=>FU z h (w.heap.size+1) _ hz (aN.gr ((tg I).trans (gd:Gr (B.ext x1) _))) ((VR.o.gr ((gd:Gr B (B.ext x1)).trans gd)).c 4)⟩)
 go_wp2_with (first|(go_at_call 211;refine(jo _ _ (mg (K,O) (D,E,s,J,h,H)) _ _ (fun o=>!pB (∃q∈h,q.1=o)) _ (HS.o.gr gd) HT.o).mono ?_;rintro e w' ⟨rfl,x2,rfl⟩;rw[wu];obtain⟨bb,T⟩:∃b:Bool,b=pB (∀z∈mg (K,O) (D,E,s,J,h,H),∃q∈h,q.1=z):=⟨_,rfl⟩;rw[←T];have aV:=Kz T;clear T))
 go_ret;exact⟨aa (by rw[aV.o];rfl),I.o.trans gd⟩
end Go.Proofs.YtdhighcpmcdmmaaGreat
