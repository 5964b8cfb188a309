/- Contracts and laws towards ReadsOf, part 17 of 54. No condition. -/
import Derived.IntWalk
import Derived.Test.YtdhighcpmcdmmaaGreatFx16
set_option maxHeartbeats 32000000
set_option maxRecDepth 10000
set_option linter.unusedVariables false
set_option linter.unusedSimpArgs false
namespace Go.Proofs.YtdhighcpmcdmmaaGreat
open Go.RowKit
open _root_.List (drop_eq_getElem_cons)
variable{d:Nat}
theorem EX{α:Type}{o:Option α}{y z:α}(h:y=o.getD z)(q:true=o.isSome):o=some y:=by
 cases o with
 |none=>cases q
 |some v=>rw[h];rfl
theorem EO{α:Type}{o:Option α}(h:false=o.isSome):o=none:=by
 cases o with
 |none=>rfl
 |some v=>cases h
section
variable{g:af d}{t:List aT}{f:Nat}{i parent place:Int}{sym:ByteArray}
theorem xy(h:nth t i=none):zK g t (f+1) i parent place sym= -1:=by rw[zK];simp only[h]
theorem rF{n:aT}(h:nth t i=some n)(q:dJ g.2 n.2.2.2.2.1=none):zK g t (f+1) i parent place sym= -1:=by rw[zK];simp only[h,q]
theorem ib{n:aT}{r:aW d}(h:nth t i=some n)(q:dJ g.2 n.2.2.2.2.1=some r)(hc:¬(r.2.1=sym∧n.2.1=parent∧n.2.2.1=place∧n.2.2.2.2.2.length=r.2.2.1.length∧nL n.2.2.2.1 r.2.2.2.1=true)):zK g t (f+1) i parent place sym= -1:=by
 rw[zK];simp only[h,q];rw[if_neg hc]
theorem nE{n:aT}{r:aW d}(h:nth t i=some n)(q:dJ g.2 n.2.2.2.2.1=some r)(hc:r.2.1=sym∧n.2.1=parent∧n.2.2.1=place∧n.2.2.2.2.2.length=r.2.2.1.length∧nL n.2.2.2.1 r.2.2.2.1=true):
  zK g t (f+1) i parent place sym=KD (fun at_ k s=>zK g t f at_ i k s) n.2.2.2.2.2 r.2.2.1 1 (i+1):=by
 rw[zK];simp only[h,q];rw[if_pos hc]
end
section
variable{wk:Int→Int→ByteArray→Int}{cs:List Int}{ss:List ByteArray}{k:Nat}{a:Int}
theorem pq(h:cs.length≤k):KD wk (cs.drop k) (ss.drop k) (k+1) a=a:=by
 rw[List.drop_eq_nil_of_le h];cases ss.drop k<;>rfl
theorem o8(h:k<cs.length)(q:k<ss.length)(hc:cs[k]≠a):KD wk (cs.drop k) (ss.drop k) (k+1) a= -1:=by
 rw[drop_eq_getElem_cons h,drop_eq_getElem_cons q,KD,if_pos hc]
theorem pz(h:k<cs.length)(q:k<ss.length)(hc:cs[k]=a)(hw:wk a (k+1) ss[k]<0):KD wk (cs.drop k) (ss.drop k) (k+1) a= -1:=by
 rw[drop_eq_getElem_cons h,drop_eq_getElem_cons q,KD,if_neg (by omega),if_pos hw]
theorem rA(h:k<cs.length)(q:k<ss.length)(hc:cs[k]=a)(hw:¬wk a (k+1) ss[k]<0):KD wk (cs.drop k) (ss.drop k) (k+1) a=KD wk (cs.drop (k+1)) (ss.drop (k+1)) (((k+1:Nat):Int)+1) (wk a (k+1) ss[k]):=by
 rw[drop_eq_getElem_cons h,drop_eq_getElem_cons q,KD,if_neg (by omega),if_neg hw];simp
end
theorem rZ(g:af d)(t:List aT):∀(f:Nat) (i parent place:Int) (sym:ByteArray),-1≤zK g t f i parent place sym:=by
 intro f
 induction f with
 |zero=>intro i parent place sym;simp[zK]
 |succ f B=>
  intro i parent place sym
  rw[zK]
  cases h:nth t i with
  |none=>simp
  |some n=>
   have D:0≤i:=by
    unfold nth at h
    split at h
    ·assumption
    ·cases h
   cases q:dJ g.2 n.2.2.2.2.1 with
   |none=>simp[q]
   |some r=>
    simp only[q]
    split
    ·exact Ia (w:=fun at_ k s=>zK g t f at_ i k s) (fun a k s=>B a i k s) _ _ _ _ (by omega)
    ·omega
set_option maxRecDepth 100000 in
theorem xm(g:af d)(t:List aT):∀(f:Nat) (fg ft:List Nat) (cg ct:Array Value) (i parent place:Int) (s:ByteArray) (w:World) (q:Rd.rd fg w cg.toList g) (K:Rd.rd ft w ct.toList t) (h0:0≤i) (h1:i≤140737488351233) (hf:(t.length:Int)<i+f),
    Qz 162 #[.agg cg,.agg ct,.int .i64 i,.int .i64 parent,.int .i64 place,.string s] w (.int .i64 (zK g t f i parent place s)):=by
  intro f
  induction f with
  |zero=>
    intro fg ft cg ct i parent place s w q K h0 h1 hf
    have hz:zK g t 0 i parent place s= -1:=rfl;have HZ:=Kz hz;clear hz;have HG:=Kz q;obtain⟨O,H,ay,aL,kz,aN,aS,kE,rfl,rfl,oG,cO,gF,gH,dz,gM,gT⟩:=yt q;have mZ:=cO.op3;have nz:=dz.op3;clear q;have HT:=Kz K;obtain⟨t0,kL,aV,kQ,rfl,rfl,oH,ah,jN,jX⟩:=K8 K;have aZ:=ah.op3;clear K;have ai:(t0.length:Int)≤i:=by omega
    delta Qz;go_in;go_wp2_with fail;go_ret;exact⟨aC HZ.o.symm,gd⟩
  |succ f ih=>
    intro fg ft cg ct i parent place s w q K h0 h1 hf
    have IH:=Kz ih;clear ih;have HG:=Kz q;obtain⟨O,H,ay,aL,kz,aN,aS,kE,rfl,rfl,-,cO,gF,gH,dz,gM,gT⟩:=yt q;clear q;have HT:=Kz K;obtain⟨t0,kL,aV,kQ,rfl,rfl,-,ah,jN,jX⟩:=K8 K;have aZ:=ah.op3;clear K
    by_cases dA:i<(t0.length:Int)
    · obtain⟨n,rfl⟩:∃n:Nat,i=n:=⟨i.toNat,by omega⟩
      have bg:n<t0.length:=by omega
      have hn:=gG (l:=t0) bg;have HN:=Kz hn;clear hn;obtain⟨b,off,rfl,aj⟩:=aZ n bg;obtain⟨q0,q1,q2,q3,q4,q5,dC,dG,oK,oL,kS,oN,oV,oW,o9,pG,pM,dL,nM,nO,pR,pV,p9,qo,qD,qE,qG⟩:=KZ ah bg (Gr.refl _);have j4:=dL.op3;rw[←kS.o] at HN;have HF:=Kz hf;have qN:n+1≤140737488351233:=by omega
      clear hf dA;delta Qz;go_in;go_wp2_with fail;refine(iL (O,H) q4 _ (Rd.gr HG.o gd)).mono ?_;rintro e w' ⟨es,fq,rfl,Y,-,x2,rfl⟩;obtain⟨r0,r1,D,T,r4,r5,bB,bD,kT,dU,dW,qR,eH,fe,qV,bH,rfl,-,qX,rf,bK,nP,nS,kV,nZ,oh,kX,oo,oq⟩:=KV (x:=(dJ H q4).getD fH) Y;have kZ:=Kz bH;have rq:=Lt bH Y;have j5:=bK.op3;clear Y bH;obtain⟨bb,aj⟩:∃b:Bool,b=(dJ H q4).isSome:=⟨_,rfl⟩;rw[←aj];have fu:=Kz aj;clear aj
      cases bb with
      |false=>
        go_wp2_with fail;go_ret;exact⟨aC (rF HN.o (EO fu.o)).symm,gd⟩
      |true=>
        have HR:=Kz (EX kZ.o fu.o)
        go_upto_region 5 with fail
        generalize I:(((((w.alloc (.cells #[.slice ay O.length aL,.slice aN H.length aS] 36)).alloc (.cells #[.slice (some ⟨b,off,none⟩) t0.length aV] 40)).alloc (.cells #[.int .i64 q0,.int .i64 q1,.int .i64 q2,.int .i64 q3,.string q4,.slice dC q5.length dG] 107)).ext x2).alloc (.cells #[.string r0,.string r1,.slice bB D.length bD,.bool T,.slice dU r4.length dW,.slice eH r5.length fe] 112))=B;have gB:Gr w B:=gb I;obtain⟨lq,lG⟩:=kb2 I (w.heap.size) (.slice ay O.length aL) (.slice aN H.length aS);have lV:=kb I (w.heap.size+1) 0 (.slice (some ⟨b,off,none⟩) t0.length aV);have l5:=kb I (w.heap.size+1+1) 1 (.int .i64 q1);have l6:=kb I (w.heap.size+1+1) 2 (.int .i64 q2);have l7:=kb I (w.heap.size+1+1) 3 (.int .i64 q3);have l8:=kb I (w.heap.size+1+1) 5 (.slice dC q5.length dG);obtain⟨rD,ku,bL,ky,ow,oz⟩:=kb6 I (w.heap.size+1+1+1+x2.objs.size) (.string r0) (.string r1) (.slice bB D.length bD) (.bool T) (.slice dU r4.length dW) (.slice eH r5.length fe);have ma:SlR kT B (.slice bB D.length bD) D:=by rw[←I];exact bK.gr gd
        clear I;have u4:=l5 B (Gr.refl _);have v4:=blk u4;have u5:=l6 B (Gr.refl _);have v5:=blk u5;have u6:=l7 B (Gr.refl _);have v6:=blk u6;have u8:=l8 B (Gr.refl _);have v8:=blk u8;have mf:=ku B (Gr.refl _);have v10:=blk mf;have mh:=bL B (Gr.refl _);have v11:=blk mh;have mo:=ky B (Gr.refl _);have rE:=blk mo
        go_cut [80] (fun mq wr=>∃b,mq=.bool b∧(b=false↔(r1=s∧q1=parent∧q2=place∧q5.length=D.length∧nL q3 T=true))∧B=wr)
        case first=>
          go_wp2_with fail
          · rename_i e1 e2 e3 e4 K0 rR
            obtain rfl:=str_inj e1;obtain rfl:=e2;obtain rfl:=e3;have J:Ky (q5.length=D.length):=Kz (by omega);clear e4;refine(di _ _ _ _).mono ?_;rintro e w' ⟨rfl,rfl⟩
            have cK:(decide (-1000000≤q3)&&decide (q3≤1000000))=false∨(decide (-1000000≤q3)&&decide (q3≤1000000))=true∧(T=true∨(T=false∧q3≠0)∨(T=false∧q3=0)):=by
              cases T<;>by_cases hq:q3=0<;>cases (decide (-1000000≤q3)&&decide (q3≤1000000))<;>simp[hq]
            rcases cK with hA|⟨hA,rfl|⟨rfl,hq⟩|⟨rfl,rfl⟩⟩<;>
              (have HA:=Kz hA
               go_wp2_with fail;go_meet;refine⟨_,rfl,?_,rfl⟩;have:=HA.o;have h4:=J.o;unfold nL
               first|(simp_all;done)|(simp at this ⊢<;>omega))
          all_goals
            go_meet;refine⟨_,rfl,⟨nofun,fun h=>?_⟩,rfl⟩
            first
              |(have:=h.2.2.2.1;omega)
              |(have:=h.2.2.1;contradiction)
              |(have:=h.2.1;contradiction)
              |(have:=h.1;simp_all;done)
        case rest=>
          obtain⟨b,rfl,hL,rfl⟩:=hcut;have HL:=Kz hL;clear hL
          cases b with
          |true=>
            go_wp2_with fail;go_ret;exact⟨aC (ib HN.o HR.o fun h=>Bool.noConfusion (HL.o.2 h)).symm,gB.trans gd⟩
          |false=>
            obtain⟨rfl,rfl,rfl,hlen,hl⟩:=HL.o.1 rfl;have J:=Kz hlen;replace HL:=Kz hl;clear hlen hl;obtain⟨fw,Z⟩:=nm (zK (O,H) t0 (f+1) (n:Int) q1 q2 r1);have ae:=Kz Z
            have hz:KD (fun at_ k s=>zK (O,H) t0 f at_ (n:Int) k s) q5 D 1 ((n:Int)+1)=fw:=by
              rw[Z];exact(nE (r:=(r0,r1,D,T,r4,r5)) HN.o HR.o ⟨rfl,rfl,rfl,J.o,HL.o⟩).symm
            have HZ:=Kz hz;clear hz Z;have iw:=zI1 n (by omega);go_wp2_with fail;clear bK kV kX
            go_loopw [86,16,17,18] (fun bN mr rT sw wr=>∃(k:Nat) (a:Int),k≤q5.length∧Ky (KD (fun at_ k s=>zK (O,H) t0 f at_ (n:Int) k s) (q5.drop k) (D.drop k) (k+1) a=fw)∧(n:Int)+1≤a∧a≤(t0.length:Int)∧Gr B wr∧bN=.int .i64 k∧mr=.int .i64 a) (fun bN _ _ _ _=>q5.length - (intOf bN).toNat)
            case atStart=>exact⟨0,(n:Int)+1,by omega,Kz (by simpa using HZ.o),by omega,by omega,Gr.refl _,rfl,rfl⟩
            case round=>
              obtain⟨k,a,hk,HK,fA,fK,q,rfl,rfl⟩:=hrel
              rename World=>W1
              have au:=Kz q;have y0:=lq _ q;have y1:=lG _ q;have y2:=lV _ q;have y5:=bL _ q;have sG:=blk y0;have sH:=blk y2;have sN:=blk y5;clear q
              by_cases U:k<q5.length
              · have E:k<D.length:=by have:=J.o;omega
                have gm:Gr w W1:=gB.trans au.o;have X:=Kz gm;obtain⟨bq,sO,rfl,sW⟩:=j4 k U;obtain⟨br,tJ,rfl,uh⟩:=j5 k E;have c1:=X.o.keep (dL.fQ U).1;have c2:=au.o.keep (ma.jl E).1;have ui:=blk c2;clear gm
                by_cases gD:q5[k]=a
                · obtain rfl:=gD
                  obtain⟨res,Y⟩:=nm (zK (O,H) t0 f q5[k] (n:Int) ((k:Int)+1) D[k]);have ax:=Kz Y
                  have ai:-1≤res∧(0≤res→q5[k]<res∧res≤(t0.length:Int)):=by
                    rw[Y];exact⟨rZ _ _ _ _ _ _ _,rX _ _ _ _ _ _ _⟩
                  have ik:=zI1 k (by omega);have i2:(0:Int)≤(k:Int):=by omega
                  have i3:(k:Int)<(D.length:Int):=by omega
                  have i4:(k:Int)<(q5.length:Int):=by omega
                  have HB:=Kz (And.intro fA (And.intro fK ai));have HC:=Kz (fun x:Ext=>IH.o _ _ _ _ q5[k] (n:Int) ((k:Int)+1) D[k] (W1.ext x) (Rd.gr HG.o (tg X)) (Rd.gr HT.o (tg X)) (by omega) (by omega) (by have:=HF.o;omega));clear Y fA fK ai;go_wp2_with fail;refine wg ?_
                  repeat(go_big_quiet_step ((go_at_call 162;exact aG (HC.o _))))
                  refine wq fun nx=>?_
                  rw[←ax.o];clear ik
                  by_cases bV:res<0
                  · go_wp2_with fail
                    go_ret;have:=HB.o;exact⟨aC (by rw[←ae.o,←HK.o,pz U E rfl (by rw[←ax.o];exact bV)]),X.o.trans gd⟩
                  · go_wp2_with fail
                    refine⟨⟨k+1,res,by omega,Kz ?_,by have:=HB.o;omega,by have:=HB.o;omega,au.o.trans gd,by go_num,rfl⟩,by simp[intOf];omega⟩;rw[←HK.o,rA U E rfl (by rw[←ax.o];exact bV),←ax.o]
                · have mH:=Kz gD
                  have i4:(k:Int)<(q5.length:Int):=by omega
                  go_wp2_with fail;go_ret;exact⟨aC (by rw[←ae.o,←HK.o,o8 U E mH.o]),X.o.trans gd⟩
              · go_wp2_with fail
                go_ret;exact⟨aC (by rw[←ae.o,←HK.o,pq (by omega)]),(gB.trans au.o).trans gd⟩
    · have hn:nth t0 i=none:=jY (by omega)
      have HN:=Kz hn;have ai:(t0.length:Int)≤i:=by omega
      clear hn dA;delta Qz;go_in;go_wp2_with fail;go_ret;exact⟨aC (xy HN.o).symm,gd⟩
theorem Mt(x q s:Int)(w:World)(h:q≤x)(B:x≤s):
  Calls Tryz.prog 101 #[.int .i64 x,.int .i64 q,.int .i64 s] w fun e w'=>e=.returned (.bool true)∧w=w':=
 (di x q s w).mono fun e w' ⟨he,hw⟩=>⟨by rw[he,decide_eq_true h,decide_eq_true B];rfl,hw⟩
theorem xu(x q s:Int)(w:World)(h:x<q∨s<x):
  Calls Tryz.prog 101 #[.int .i64 x,.int .i64 q,.int .i64 s] w fun e w'=>e=.returned (.bool false)∧w=w':=
 (di x q s w).mono fun e w' ⟨he,hw⟩=>⟨by rw[he,Bool.and_eq_false_iff.2 (h.imp (fun h=>decide_eq_false (by omega)) (fun h=>decide_eq_false (by omega)))],hw⟩
theorem Bo{fp:List Nat}{cs:Array Value}(x:aT)(id:Int)(b:Nat)(w:World)(h:Rd.rd fp w cs.toList x)(hc:w.cell? ⟨b,0,none⟩=some (.int .i64 id)):
  Qz 161 #[.agg cs,.pointer (some ⟨b,0,none⟩)] w (.bool (decide (x.1=id))):=by
 have s:=blk hc;obtain⟨q0,q1,q2,q3,q4,q5,a5,B,f5,rfl,rfl,-,-,-,-,-,-,q,-,-⟩:=Lr h;clear h q;delta Qz;go_in;go_wp2_with fail;go_ret;exact⟨aa (by simp[BEq.beq]),gd⟩
theorem E9{t:List aT}{k:Nat}(h:k<t.length):(t.take k).any (fun n=>decide (n.1=t[k].1))=true↔∃j,∃q:j<t.length,j<k∧t[j].1=t[k].1:=by
 rw[List.any_eq_true];constructor
 ·rintro⟨z,D,s⟩
  obtain⟨j,q,rfl⟩:=List.mem_iff_getElem.1 D;have B:j<k:=by simp at q;omega
  simp only[List.getElem_take,decide_eq_true_eq] at s;exact⟨j,by omega,B,s⟩
 ·rintro⟨j,q,E,e⟩
  refine⟨t[j],?_,by simpa using e⟩;rw[List.mem_iff_getElem];exact⟨j,by simp;omega,by simp⟩
set_option maxRecDepth 100000 in
theorem xM{fg:List Nat}{cg:Array Value}(g:(af d)){ft:List Nat}{ct:Array Value}(t:fU)(s:ByteArray)(w:World)(H:Rd.rd fg w cg.toList g)(T:Rd.rd ft w ct.toList t):
  Qz 92 #[.agg cg,.agg ct,.string s] w (.bool (kY g t s)):=by
 have HG:=Kz H;obtain⟨g0,g1,ay,aL,fK,aN,aS,gm,rfl,rfl,-,gD,dL,dU,gF,dW,eH⟩:=yt H;clear H;have HT:=Kz T;obtain⟨t0,aV,ae,gH,rfl,rfl,-,ah,fe,fu⟩:=K8 T;have bg:=ah.op3;clear T
 by_cases hlen:1≤t0.length∧t0.length≤16
 ·have J:=Kz hlen
  clear hlen;delta Qz;go_in;go_wp2_with fail;refine(Mt _ _ _ _ (by have:=J.o;omega) (by have:=J.o;omega)).mono ?_;rintro e w' ⟨rfl,rfl⟩;go_wp2_with fail;generalize hB:((w.alloc (.cells #[.slice ay g0.length aL,.slice aN g1.length aS] 36)).alloc (.cells #[.slice aV t0.length ae] 40))=B;have gB:Gr w B:=gb hB;obtain⟨bD,bH⟩:=kb2 hB (w.heap.size) (.slice ay g0.length aL) (.slice aN g1.length aS);have bK:=kb hB (w.heap.size+1) 0 (.slice aV t0.length ae);clear hB
  go_loopw [17,7,8] (fun ai s7 s8 wr=>∃k:Nat,k≤t0.length∧Ky (∀i (h:i<t0.length),i<k→(1≤t0[i].1∧t0[i].1≤999)∧∀j (hj:j<t0.length),j<i→t0[j].1≠t0[i].1)∧Gr B wr∧ai=.int .i64 k) (fun ai _ _ _=>t0.length - (intOf ai).toNat)
  case atStart=>exact⟨0,by omega,Kz (by omega),Gr.refl _,rfl⟩
  case round=>
   obtain⟨k,hk,HK,H,rfl⟩:=hrel
   rename World=>Y
   have aj:=Kz H;have y0:=bD _ H;have y1:=bH _ H;have y2:=bK _ H;have gM:=blk y0;have gT:=blk y2;clear H
   by_cases D:k<t0.length
   ·have q:Gr w Y:=gB.trans aj.o
    have E:=Kz q;obtain⟨fq,aZ⟩:=ah.J4 (k:=k) (by omega);have bL:=Kz aZ;clear aZ;obtain⟨b,off,rfl,ik⟩:=bg k D;obtain⟨q0,q1,q2,q3,q4,q5,bN,bV,iw,jN,X,jX,j4,j5,ku,ky,kz,cK,fw,fA,kE,kL,kQ,kS,kT,kV,kX⟩:=KZ ah D q;clear q cK;have j0:(0:Int)≤(k:Int):=by omega
    have j1:(k:Int)≤(ae:Int):=by omega
    have j2:(k:Int)<(t0.length:Int):=by omega
    by_cases hid:1≤q0∧q0≤999
    ·have K:=Kz hid
     have hT:TestNode (Y.alloc (.cells #[.int .i64 q0,.int .i64 q1,.int .i64 q2,.int .i64 q3,.string q4,.slice bN q5.length bV] 107)) 161 #[.pointer (some ⟨Y.heap.size,0,none⟩)] (fun n=>decide (n.1=q0)) (t0.take k):=
      ⟨Tryz.call161,fun y _ x fp cs hy=>Bo y q0 Y.heap.size _ hy (Gr.keep (Gr.ext (Gr.refl _) x) (aJ rfl rfl))⟩
     have cO:=Kz hT;clear hT hid;go_wp2_with fail;refine(Mt _ _ _ _ K.o.1 K.o.2).mono ?_;rintro e w' ⟨rfl,rfl⟩;go_wp2_with fail;refine(om _ _ (t0.take k) _ _ _ _ (bL.o.gr (tg E)) cO.o).mono ?_;rintro e w' ⟨rfl,x1,rfl⟩
     by_cases I:(t0.take k).any (fun n=>decide (n.1=q0))=true
     ·have HD:=Kz I
      go_wp2_with fail;go_ret;refine⟨aa (lJ fun h=>?_).symm,E.o.trans gd⟩;have h1:=HD.o;rw[show q0=t0[k].1 by rw[←X.o]] at h1;obtain⟨j,hj,dz,e⟩:=(E9 D).1 h1;exact(h.2.1 k D).2 j hj dz e
     ·have kZ:(t0.take k).any (fun n=>decide (n.1=q0))=false:=eq_false_of_ne_true I
      have HD:=Kz I;clear I;go_wp2_with fail;refine⟨⟨k+1,by omega,Kz fun i hi lq=>?_,aj.o.trans gd,by go_num⟩,by simp[intOf];omega⟩
      by_cases bq:i<k
      ·exact HK.o i hi bq
      ·obtain rfl:i=k:=by omega
       refine⟨by rw[←X.o];exact K.o,fun j hj dA e=>HD.o ?_⟩;rw[show q0=t0[i].1 by rw[←X.o]];exact(E9 D).2 ⟨j,hj,dA,e⟩
    ·have K:=Kz hid
     have O:q0<1∨999<q0:=by omega
     have dC:=Kz O;clear hid O;go_wp2_with fail;refine(xu _ _ _ _ dC.o).mono ?_;rintro e w' ⟨rfl,rfl⟩;go_wp2_with fail;go_ret;refine⟨aa (lJ fun h=>K.o ?_).symm,E.o.trans gd⟩;have:=(h.2.1 k D).1;rw[←X.o] at this;exact this
   ·have dG:k=t0.length:=by omega
    subst dG;have au:qa t0:=fun i hi=>HK.o i hi hi
    have bB:=Kz au;obtain⟨res,ax⟩:=nm (zK (g0,g1) t0 (t0.length+1) 0 (-1) 0 s);have U:=Kz ax;have q:Gr w Y:=gB.trans aj.o;have HC:=Kz (fun x:Ext=>xm (g0,g1) t0 (t0.length+1) _ _ _ _ 0 (-1) 0 s (Y.ext x) (Rd.gr HG.o (q.trans gd)) (Rd.gr HT.o (q.trans gd)) (by omega) (by omega) (by omega));have E:=Kz q;clear au ax q;go_wp2_with fail;refine wg ?_
    repeat(go_big_quiet_step ((go_at_call 162;exact aG (HC.o _))))
    refine wq fun nx=>?_
    rw[←U.o]
    by_cases Z:res=(t0.length:Int)
    ·have HR:=Kz Z
     have T:(res==(t0.length:Int))=true:=by simpa using Z
     clear Z;go_wp2_with fail;go_ret;exact⟨aa (by rw[T,xV J.o bB.o (by rw[←U.o];exact HR.o)]),E.o.trans gd⟩
    ·have HR:=Kz Z
     have T:(res==(t0.length:Int))=false:=by simpa using Z
     clear Z;go_wp2_with fail;go_ret;exact⟨aa (by rw[T,lJ fun h=>HR.o (by rw[U.o];exact h.2.2)]),E.o.trans gd⟩
 ·have J:=Kz hlen
  have O:(t0.length:Int)<1∨16<(t0.length:Int):=by omega
  have HO:=Kz O;clear hlen O;delta Qz;go_in;go_wp2_with fail;refine(xu _ _ _ _ HO.o).mono ?_;rintro e w' ⟨rfl,rfl⟩;go_wp2_with fail;go_ret;exact⟨aa (lJ fun h=>J.o h.1).symm,gd⟩
theorem iG{fr:List Nat}{cr:Array Value}(r:aW d)(p:Int)(w:World)(O:Rd.rd fr w cr.toList r):Qz 184 #[.agg cr,.int .i64 p] w (.string (j6 r p)):=by
 obtain⟨T,U,q,X,Y,Z,ay,aL,aN,aS,aV,aZ,bg,bq,bB,rfl,rfl,-,bD,bH,H,ae,ah,bK,ai,aj,bL,au,ax⟩:=KV O;have J:=H.op3;clear O
 by_cases s:p=0
 ·subst s
  delta Qz;go_in;go_wp2_with fail;go_ret;exact⟨by unfold j6;rfl,gd⟩
 ·have n0:(p==0)=false:=by simpa using s
  by_cases h:1≤p∧p≤(q.length:Int)
  ·obtain⟨n,K⟩:∃n:Nat,p - 1=n:=⟨(p - 1).toNat,by omega⟩
   have B:n<q.length:=by omega
   have D:=Kz (show j6 (T,U,q,X,Y,Z) p=q[n] by
    unfold j6;rw[if_neg s,if_pos h,K,gG B];rfl)
   obtain⟨b,off,rfl,hb⟩:=J n B;have c1:=(H.jl B).1;have i0:(0:Int)≤(n:Int):=by omega
   have i1:(n:Int)<(q.length:Int):=by omega
   have iw:IntKind.i64.wrap (p - 1)=(n:Int):=by rw[IntWalk.i64_in _ (by omega)];exact K
   have E:=Kz h;clear h K s;delta Qz;go_in;go_wp2_with fail;refine(fJ _ _ _ _ E.o.1 E.o.2).mono ?_;rintro e w' ⟨rfl,x1,rfl⟩;go_wp2_with fail;go_ret;exact⟨by rw[D.o];rfl,gd⟩
  ·have I:p<1∨(q.length:Int)<p:=by omega
   have E:=Kz I
   have D:=Kz (show j6 (T,U,q,X,Y,Z) p=ByteArray.empty by
    unfold j6;rw[if_neg s,if_neg h])
   clear h I s;delta Qz;go_in;go_wp2_with fail;refine(eu _ _ _ _ E.o).mono ?_;rintro e w' ⟨rfl,x1,rfl⟩;go_wp2_with fail;go_ret;exact⟨by rw[D.o];rfl,gd⟩
theorem jF{fr:List Nat}{cr:Array Value}(r:aW d)(p:Int)(w:World)(O:Rd.rd fr w cr.toList r):Qz 210 #[.agg cr,.int .i64 p] w (.string (j6 r p)):=by
 obtain⟨T,U,q,X,Y,Z,ay,aL,aN,aS,aV,aZ,bg,bq,bB,rfl,rfl,-,bD,bH,H,ae,ah,bK,ai,aj,bL,au,ax⟩:=KV O;have J:=H.op3;clear O
 by_cases s:p=0
 ·subst s
  delta Qz;go_in;go_wp2_with fail;go_ret;exact⟨by unfold j6;rfl,gd⟩
 ·have n0:(p==0)=false:=by simpa using s
  by_cases h:1≤p∧p≤(q.length:Int)
  ·obtain⟨n,K⟩:∃n:Nat,p - 1=n:=⟨(p - 1).toNat,by omega⟩
   have B:n<q.length:=by omega
   have D:=Kz (show j6 (T,U,q,X,Y,Z) p=q[n] by
    unfold j6;rw[if_neg s,if_pos h,K,gG B];rfl)
   obtain⟨b,off,rfl,hb⟩:=J n B;have c1:=(H.jl B).1;have i0:(0:Int)≤(n:Int):=by omega
   have i1:(n:Int)<(q.length:Int):=by omega
   have iw:IntKind.i64.wrap (p - 1)=(n:Int):=by rw[IntWalk.i64_in _ (by omega)];exact K
   have E:=Kz h;clear h K s;delta Qz;go_in;go_wp2_with fail;refine(kC _ _ _ _ E.o.1 E.o.2).mono ?_;rintro e w' ⟨rfl,x1,rfl⟩;go_wp2_with fail;go_ret;exact⟨by rw[D.o];rfl,gd⟩
  ·have I:p<1∨(q.length:Int)<p:=by omega
   have E:=Kz I
   have D:=Kz (show j6 (T,U,q,X,Y,Z) p=ByteArray.empty by
    unfold j6;rw[if_neg s,if_neg h])
   clear h I s;delta Qz;go_in;go_wp2_with fail;refine(mX _ _ _ _ E.o).mono ?_;rintro e w' ⟨rfl,x1,rfl⟩;go_wp2_with fail;go_ret;exact⟨by rw[D.o];rfl,gd⟩
def Fx(o:Option aQ)(p:Int):Bool:=o.isSome&&(((o.getD dR).2.2.1)==(if p=0 then 1 else 2))
theorem BI(g:af d)(r:aW d)(o:ag):Fx (jf g r o) o.1=pB (qp g r o):=by
 rw[Bool.eq_iff_iff,dx];unfold Fx qp
 cases h:jf g r o with
 |none=>simp
 |some a=>simp
def atS(ss:List bC)(n:ByteArray):Int:=idxOf (fun s=>decide (s.1=n)) ss
theorem sQ{fg:List Nat}{cg:Array Value}(g:af d)(n:ByteArray)(w:World)(hg:Rd.rd fg w cg.toList g):
  Qz 277 #[.agg cg,.string n] w (.int .i64 (atS g.1 n)):=by
 obtain⟨s,g1,J,K,aZ,ah,ai,bg,rfl,rfl,-,O,ax,ay,D,aL,aN⟩:=yt hg;have Y:=O.op3;clear hg;delta Qz;go_in;go_wp2_with fail;generalize Z:(w.alloc (.cells #[.slice J s.length K,.slice ah g1.length ai] 36))=B;have gB:Gr w B:=gb Z;have aj:=kb Z (w.heap.size) 0 (.slice J s.length K);clear Z
 go_loopw [5] (fun s5 wr=>∃k:Nat,k≤s.length∧Ky (∀j (h:j<s.length),j<k→decide (s[j].1=n)=false)∧Gr B wr∧s5=.int .i64 k) (fun s5 _=>s.length - (intOf s5).toNat)
 case atStart=>exact⟨0,by omega,Kz (fun j h I=>by omega),Gr.refl _,rfl⟩
 case round=>
  obtain⟨k,hk,HT,D,rfl⟩:=hrel
  rename World=>W1
  have y0:=aj _ D;have T:=gB.trans D;have U:=Kz T;have au:=Kz D;clear D
  by_cases H:k<s.length
  ·skip
   obtain⟨b,off,rfl,bq⟩:=Y k H;obtain⟨q0,q1,bB,bD,bH,bK,X,bL,bN,bV,aS,aV,cK,cO,dz⟩:=K9 O H T;have k0:(0:Int)≤(k:Int):=by omega
   have k1:(k:Int)<(s.length:Int):=by omega
   have iw:=zI1 k (by omega)
   by_cases q:q0=n
   ·have HE:=Kz (show atS s n=k from iH H (decide_eq_true (by rw[←X.o];exact q)) HT.o)
    subst q;go_wp2_with fail;go_ret;exact⟨aC HE.o.symm,U.o⟩
   ·have E:=Kz q
    have e:(q0.toList==n.toList)=false:=by simpa using fun e=>q (str_inj e)
    clear q;go_wp2_with fail;refine⟨⟨k+1,by omega,Kz fun j I dA=>?_,au.o,by go_num⟩,by simp[intOf];omega⟩
    by_cases ae:j<k
    ·exact HT.o j I ae
    ·obtain rfl:j=k:=by omega
     rw[←X.o];exact decide_eq_false E.o
  ·have HE:=Kz (show atS s n= -1 from gu (fun j I=>HT.o j I (by omega)))
   go_wp2_with fail;go_ret;exact⟨aC HE.o.symm,U.o⟩
end Go.Proofs.YtdhighcpmcdmmaaGreat
