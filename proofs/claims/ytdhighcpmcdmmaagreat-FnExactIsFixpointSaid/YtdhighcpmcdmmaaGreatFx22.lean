/- Contracts and laws towards ReadsOf, part 18 of 54. No condition. -/
import Derived.Test.YtdhighcpmcdmmaaGreatFx17
set_option maxHeartbeats 32000000
set_option maxRecDepth 10000
set_option linter.unusedVariables false
set_option linter.unusedSimpArgs false
namespace Go.Proofs.YtdhighcpmcdmmaaGreat
open Go.RowKit
open _root_.Nat (le_trans)
variable{d:Nat}
variable{t:List aT}{fg fp ft fr fo:List Nat}{cg ct cr co:Array Value}{g:af d}{A:World}{x:Ext}
set_option maxRecDepth 100000 in
theorem Dj(g:af d)(t:List aT)(hl:aP g≤1048576):∀(f:Nat) (fg ft:List Nat) (cg ct:Array Value) (i parent place:Int) (s:ByteArray) (w:World) (q:Rd.rd fg w cg.toList g) (O:Rd.rd ft w ct.toList t) (h0:0≤i) (h1:i≤140737488351233) (hf:(t.length:Int)<i+f),
    Qz 85 #[.agg cg,.agg ct,.int .i64 i,.int .i64 parent,.int .i64 place,.string s] w (.int .i64 (zK g t f i parent place s)):=by
  have j4:=Kz hl;intro f
  induction f with
  |zero=>
    intro fg ft cg ct i parent place s w q O h0 h1 hf
    have hz:zK g t 0 i parent place s= -1:=rfl;have HZ:=Kz hz;clear hz;have HG:=Kz q;obtain⟨T,H,aL,aN,j5,aS,aV,ku,rfl,rfl,oo,cO,fA,fK,dz,gm,gD⟩:=yt q;have mq:=cO.op3;have mr:=dz.op3;clear q;have HT:=Kz O;obtain⟨t0,ky,aZ,kz,rfl,rfl,oq,ai,gF,gH⟩:=K8 O;have bg:=ai.op3;clear O;have aj:(t0.length:Int)≤i:=by omega
    delta Qz;go_in;go_wp2_with fail;go_ret;exact⟨aC HZ.o.symm,gd⟩
  |succ f ih=>
    intro fg ft cg ct i parent place s w q O h0 h1 hf
    have IH:=Kz ih;clear ih;have HG:=Kz q;obtain⟨T,H,aL,aN,j5,aS,aV,ku,rfl,rfl,-,cO,fA,fK,dz,gm,gD⟩:=yt q;clear q;have HT:=Kz O;obtain⟨t0,ky,aZ,kz,rfl,rfl,-,ai,gF,gH⟩:=K8 O;have bg:=ai.op3;clear O
    by_cases dA:i<(t0.length:Int)
    · obtain⟨n,rfl⟩:∃n:Nat,i=n:=⟨i.toNat,by omega⟩
      have bB:n<t0.length:=by omega
      have hn:=gG (l:=t0) bB;have I:=Kz hn;clear hn;obtain⟨b,off,rfl,au⟩:=bg n bB;obtain⟨q0,q1,q2,q3,q4,q5,dC,dG,ow,oz,kE,oG,oH,oK,oL,oN,oV,dL,mH,mZ,oW,o9,pG,pM,pR,pV,p9⟩:=KZ ai bB (Gr.refl _);have gM:=dL.op3;rw[←kE.o] at I;have HF:=Kz hf;have qo:n+1≤140737488351233:=by omega
      clear hf dA;delta Qz;go_in;go_wp2_with fail;refine(iM (T,H) q4 _ (Rd.gr HG.o gd) j4.o).mono ?_;rintro e w' ⟨es,fq,rfl,Y,-,x2,rfl⟩;obtain⟨r0,r1,D,J,r4,r5,bD,bH,kL,kQ,kS,qD,kT,kV,qE,bK,rfl,-,qG,qN,bL,nz,nM,kX,nO,nP,kZ,nS,nZ⟩:=KV (x:=(dJ H q4).getD fH) Y;have lq:=Kz bK;have qR:=Lt bK Y;have gT:=bL.op3;clear Y bK;obtain⟨bb,au⟩:∃b:Bool,b=(dJ H q4).isSome:=⟨_,rfl⟩;rw[←au];have dU:=Kz au;clear au
      cases bb with
      |false=>
        go_wp2_with fail;go_ret;exact⟨aC (rF I.o (EO dU.o)).symm,gd⟩
      |true=>
        have HR:=Kz (EX lq.o dU.o)
        go_upto_region 7 with fail
        rotate_left
        · skip
          obtain rfl:=str_inj (show r1.toList=s.toList by assumption);obtain rfl:=(show q1=parent by assumption);obtain rfl:=(show q2=place by assumption);have Z:Ky (q5.length=D.length):=Kz (by have:=int_eq (show((q5.length:Int)!=(D.length:Int))=false by assumption);omega);generalize K:(((((w.alloc (.cells #[.slice aL T.length aN,.slice aS H.length aV] 36)).alloc (.cells #[.slice (some ⟨b,off,none⟩) t0.length aZ] 40)).alloc (.cells #[.int .i64 q0,.int .i64 q1,.int .i64 q2,.int .i64 q3,.string q4,.slice dC q5.length dG] 107)).ext x2).alloc (.cells #[.string r0,.string r1,.slice bD D.length bH,.bool J,.slice kQ r4.length kS,.slice kT r5.length kV] 112))=B;have gB:Gr w B:=gb K;obtain⟨lG,lV⟩:=kb2 K (w.heap.size) (.slice aL T.length aN) (.slice aS H.length aV);have l5:=kb K (w.heap.size+1) 0 (.slice (some ⟨b,off,none⟩) t0.length aZ);have l6:=kb K (w.heap.size+1+1) 3 (.int .i64 q3);have l7:=kb K (w.heap.size+1+1) 5 (.slice dC q5.length dG);have jN:=kb K (w.heap.size+1+1+1+x2.objs.size) 2 (.slice bD D.length bH);have jX:=kb K (w.heap.size+1+1+1+x2.objs.size) 3 (.bool J);have l8:SlR kL B (.slice bD D.length bH) D:=by rw[←K];exact bL.gr gd
          clear K;have u6:=l6 B (Gr.refl _);have v6:=blk u6;have ma:=jX B (Gr.refl _);have qV:=blk ma
          go_cut [77] (fun mf wr=>∃b,mf=.bool b∧(b=!nL q3 J)∧B=wr)
          case first=>
            go_wp2_with fail;refine(Ct _ _).mono ?_;rintro e w' ⟨rfl,rfl⟩
            have cK:(decide (-1000000≤q3)&&decide (q3≤1000000))=false∨(decide (-1000000≤q3)&&decide (q3≤1000000))=true∧(J=true∨(J=false∧q3≠0)∨(J=false∧q3=0)):=by
              cases J<;>by_cases hq:q3=0<;>cases (decide (-1000000≤q3)&&decide (q3≤1000000))<;>simp[hq]
            rcases cK with hA|⟨hA,rfl|⟨rfl,hq⟩|⟨rfl,rfl⟩⟩<;>
              (have HA:=Kz hA
               go_wp2_with fail;go_meet;refine⟨_,rfl,?_,rfl⟩;have:=HA.o;unfold nL
               first|(simp_all;done)|(simp at this ⊢<;>omega))
          case rest=>
            obtain⟨b,rfl,hL,rfl⟩:=hcut;have HL:=Kz hL;clear hL
            cases b with
            |true=>
              go_wp2_with fail;go_ret;exact⟨aC (ib I.o HR.o fun h=>by have:=HL.o;rw[h.2.2.2.2] at this;exact absurd this (by simp)).symm,gB.trans gd⟩
            |false=>
              replace HL:=Kz (show nL q3 J=true by have:=HL.o;simpa using this);obtain⟨dW,ae⟩:=nm (zK (T,H) t0 (f+1) (n:Int) q1 q2 r1);have ah:=Kz ae
              have hz:KD (fun at_ k s=>zK (T,H) t0 f at_ (n:Int) k s) q5 D 1 ((n:Int)+1)=dW:=by
                rw[ae];exact(nE (r:=(r0,r1,D,J,r4,r5)) I.o HR.o ⟨rfl,rfl,rfl,Z.o,HL.o⟩).symm
              have HZ:=Kz hz;clear hz ae;have iw:=zI1 n (by omega);go_wp2_with fail;clear bL kX kZ
              go_loopw [17,16] (fun bN mh wr=>∃(k:Nat) (a:Int),k≤q5.length∧Ky (KD (fun at_ k s=>zK (T,H) t0 f at_ (n:Int) k s) (q5.drop k) (D.drop k) (k+1) a=dW)∧(n:Int)+1≤a∧a≤(t0.length:Int)∧Gr B wr∧bN=.int .i64 k∧mh=.int .i64 a) (fun bN _ _=>q5.length - (intOf bN).toNat)
              case atStart=>exact⟨0,(n:Int)+1,by omega,Kz (by simpa using HZ.o),by omega,by omega,Gr.refl _,rfl,rfl⟩
              case round=>
                obtain⟨k,a,hk,HK,eH,fe,q,rfl,rfl⟩:=hrel
                rename World=>W1
                have ax:=Kz q;have y0:=lG _ q;have y1:=lV _ q;have y2:=l5 _ q;have y5:=jN _ q;have y6:=l7 _ q;have qX:=blk y0;have rf:=blk y2;have rq:=blk y5;clear q
                by_cases U:k<q5.length
                · have E:k<D.length:=by have:=Z.o;omega
                  have fu:Gr w W1:=gB.trans ax.o;have X:=Kz fu;obtain⟨bq,rD,rfl,rE⟩:=gM k U;obtain⟨br,rR,rfl,rT⟩:=gT k E;have c1:=X.o.keep (dL.fQ U).1;have c2:=ax.o.keep (l8.jl E).1;have sw:=blk c2;clear fu
                  by_cases fw:q5[k]=a
                  · obtain rfl:=fw
                    obtain⟨res,Y⟩:=nm (zK (T,H) t0 f q5[k] (n:Int) ((k:Int)+1) D[k]);have ay:=Kz Y
                    have aj:-1≤res∧(0≤res→q5[k]<res∧res≤(t0.length:Int)):=by
                      rw[Y];exact⟨rZ _ _ _ _ _ _ _,rX _ _ _ _ _ _ _⟩
                    have ik:=zI1 k (by omega);have i2:(0:Int)≤(k:Int):=by omega
                    have i3:(k:Int)<(D.length:Int):=by omega
                    have i4:(k:Int)<(q5.length:Int):=by omega
                    have HB:=Kz (And.intro eH (And.intro fe aj));have HC:=Kz (fun x:Ext=>IH.o _ _ _ _ q5[k] (n:Int) ((k:Int)+1) D[k] (W1.ext x) (Rd.gr HG.o (tg X)) (Rd.gr HT.o (tg X)) (by omega) (by omega) (by have:=HF.o;omega));clear Y eH fe aj;go_wp2_with fail;refine wg ?_
                    repeat(go_big_quiet_step ((go_at_call 85;exact aG (HC.o _))))
                    refine wq fun nx=>?_
                    rw[←ay.o];clear ik
                    by_cases bV:res<0
                    · go_wp2_with fail
                      go_ret;have:=HB.o;exact⟨aC (by rw[←ah.o,←HK.o,pz U E rfl (by rw[←ay.o];exact bV)]),X.o.trans gd⟩
                    · go_wp2_with fail
                      refine⟨⟨k+1,res,by omega,Kz ?_,by have:=HB.o;omega,by have:=HB.o;omega,ax.o.trans gd,by go_num,rfl⟩,by simp[intOf];omega⟩;rw[←HK.o,rA U E rfl (by rw[←ay.o];exact bV),←ay.o]
                  · have mo:=Kz fw
                    have i4:(k:Int)<(q5.length:Int):=by omega
                    go_wp2_with fail;go_ret;exact⟨aC (by rw[←ah.o,←HK.o,o8 U E mo.o]),X.o.trans gd⟩
                · have oh:¬k<D.length:=by have:=Z.o;omega
                  go_wp2_with fail;go_ret;exact⟨aC (by rw[←ah.o,←HK.o,pq (by omega)]),(gB.trans ax.o).trans gd⟩
        all_goals
          go_ret
          first
            |exact⟨aC (ib I.o HR.o fun h=>by have h4:=h.2.2.2.1;have:=int_ne (show((q5.length:Int)!=(D.length:Int))=true by assumption);simp only at h4;omega).symm,gd⟩
            |exact⟨aC (ib I.o HR.o fun h=>by have:=h.2.2.1;contradiction).symm,gd⟩
            |exact⟨aC (ib I.o HR.o fun h=>by have:=h.2.1;contradiction).symm,gd⟩
            |exact⟨aC (ib I.o HR.o fun h=>by have:=h.1;simp_all).symm,gd⟩
    · have hn:nth t0 i=none:=jY (by omega)
      have I:=Kz hn;have aj:(t0.length:Int)≤i:=by omega
      clear hn dA;delta Qz;go_in;go_wp2_with fail;go_ret;exact⟨aC (xy I.o).symm,gd⟩
noncomputable def Bt(t:List aT):Bool:=@decide ((1≤t.length∧t.length≤16)∧qa t) (Classical.propDecidable _)
theorem Dp(h:(1≤t.length∧t.length≤16)∧qa t):Bt t=true:=by unfold Bt;exact @decide_eq_true _ (Classical.propDecidable _) h
theorem Bh(h:¬((1≤t.length∧t.length≤16)∧qa t)):Bt t=false:=by unfold Bt;exact @decide_eq_false _ (Classical.propDecidable _) h
theorem Dm:Bt t=true↔(1≤t.length∧t.length≤16)∧qa t:=by unfold Bt;exact @decide_eq_true_iff _ (Classical.propDecidable _)
theorem CW{k:Nat}(h:k<t.length):((t.take k).map (·.1)).any (fun z=>t[k].1==z)=true↔∃j,∃q:j<t.length,j<k∧t[j].1=t[k].1:=by
 rw[List.any_eq_true];constructor
 ·rintro⟨z,D,s⟩
  obtain⟨j,q,rfl⟩:=List.mem_iff_getElem.1 D;have B:j<k:=by simp at q;omega
  simp only[List.getElem_map,List.getElem_take,beq_iff_eq] at s;exact⟨j,by omega,B,s.symm⟩
 ·rintro⟨j,q,E,e⟩
  refine⟨t[j].1,?_,by simpa using e.symm⟩;rw[List.mem_iff_getElem];exact⟨j,by simp;omega,by simp⟩
set_option maxRecDepth 100000 in
theorem Cu(t:fU)(w:World)(ht:Rd.rd ft w ct.toList t)(hl:t.length≤1048576):
  Qz 84 #[.agg ct] w (.bool (Bt t)):=by
 obtain⟨i0,J⟩:=info_parts Tryz.kJ;have Z:=Kz J;clear J;obtain⟨t0,ae,ah,cO,rfl,rfl,-,ai,bL,bN⟩:=K8 ht;have aL:=ai.op3;clear ht;delta Qz;go_in;go_wp2_with fail;generalize hB:(w.alloc (.cells #[.slice ae t0.length ah] 40))=B;have gB:Gr w B:=gb hB;have aV:=kb hB (w.heap.size) 0 (.slice ae t0.length ah);have sB:B.heap.size=w.heap.size+1:=szB hB;clear hB
 go_loopw [4,3] (fun s4 s3 wr=>∃(k:Nat) (fps:List (List Nat)),k≤t0.length∧Ky (∀i (h:i<t0.length),i<k→(1≤t0[i].1∧t0[i].1≤999)∧∀j (hj:j<t0.length),j<i→t0[j].1≠t0[i].1)∧Gr B wr∧Ky (fps.flatten=[])∧bE (α:=Int) B 3 wr s3 fps ((t0.take k).map (·.1))∧s4=.int .i64 k) (fun s4 _ _=>t0.length - (intOf s4).toNat)
 case atStart=>exact⟨0,[],by omega,Kz (by omega),gd,Kz rfl,bE.kF (α:=Int) (w0:=B) (w:=B) 3 (Nat.le_refl _) (by omega),rfl⟩
 case round=>
  obtain⟨k,fps,hk,HK,hg,HF,hown,rfl⟩:=hrel
  rename World=>W1
  have T:=Kz hg;have HO:=Kz hown;obtain⟨ra,rc,K⟩:=hown.form;have U:((t0.take k).map (·.1)).length=k:=by simp;omega
  rw[U] at K;have HL:=Kz U;have y0:=aV _ hg;have dz:=blk y0;subst K;clear hg hown U
  by_cases s:k<t0.length
  ·have X:Gr w W1:=gB.trans T.o
   have E:=Kz X;obtain⟨b,off,rfl,dA⟩:=aL k s;obtain⟨q0,q1,q2,q3,q4,q5,dC,dG,dL,dU,H,dW,aj,eH,fe,fu,fw,aZ,bV,cK,fA,fK,gm,gD,gF,gH,gM⟩:=KZ ai s X;obtain⟨fo,au,-⟩:=HO.o.slR (by rw[HL.o];unfold bn;omega);have bg:=Kz au;have bq:=Kz aj;clear X au aj aZ
   by_cases hid:1≤q0∧q0≤999
   ·have I:=Kz hid
    clear hid;go_wp2_with fail;refine(fJ _ _ _ _ I.o.1 I.o.2).mono ?_;rintro e w' ⟨rfl,x1,rfl⟩;go_wp2_with fail;refine(Bp _ _ ((t0.take k).map (·.1)) q0 _ (bg.o.gr gd)).mono ?_;rintro e w' ⟨rfl,x2,rfl⟩
    by_cases q:((t0.take k).map (·.1)).any (fun z=>q0==z)=true
    ·have HD:=Kz q
     rw[q];clear q;go_wp2_with fail;go_ret;refine⟨aa (Bh fun h=>?_).symm,E.o.trans gd⟩;have O:=HD.o;rw[show q0=t0[k].1 by rw[←H.o]] at O;obtain⟨j,hj,bB,e⟩:=(CW s).1 O;exact(h.2 k s).2 j hj bB e
    ·have ax:((t0.take k).map (·.1)).any (fun z=>q0==z)=false:=eq_false_of_ne_true q
     have HD:=Kz q;rw[ax];clear q ax
     go_wp2_with (first|(at_builtin;refine bP (α:=Int) (w0:=B) (tg T) rfl _ _ 29 rfl 3 i0 (.int .i64 0) 8 Tryz.underlying29 Z.o.1 Z.o.2.1 Z.o.2.2.1 Z.o.2.2.2 rfl _ fps _ (by rfl) (HO.o.gr gd) _ [[]] [q0] (by rfl) (eT.one (by simp) (rO bq.o _)) (fun b _=>by simp) (by rw[HL.o];unfold maxLen;simp;omega) (by rw[HL.o];simp;omega) ?_;intro v3 w3 O h2 h3 h4;replace O:=Kz O;replace h4:=Kz h4;clear h2 h3))
     refine⟨⟨k+1,fps++[[]],by omega,Kz fun i J gT=>?_,h4.o,Kz (by rw[List.flatten_append,HF.o];rfl),?_,by go_num⟩,by simp[intOf];omega⟩
     ·by_cases aN:i<k
      ·exact HK.o i J aN
      ·obtain rfl:i=k:=by omega
       refine⟨by rw[←H.o];exact I.o,fun j hj bD e=>HD.o ?_⟩;rw[show q0=t0[i].1 by rw[←H.o]];exact(CW s).2 ⟨j,hj,bD,e⟩
     ·have e:(t0.take (k+1)).map (·.1)=(t0.take k).map (·.1)++[q0]:=by
       rw[List.take_succ_eq_append_getElem s,List.map_append,←H.o];rfl
      rw[e];exact O.o
   ·have I:=Kz hid
    have ay:q0<1∨999<q0:=by omega
    have bH:=Kz ay;clear hid ay;go_wp2_with fail;refine(eu _ _ _ _ bH.o).mono ?_;rintro e w' ⟨rfl,x1,rfl⟩;go_wp2_with fail;go_ret;refine⟨aa (Bh fun h=>I.o ?_).symm,E.o.trans gd⟩;have:=(h.2 k s).1;rw[←H.o] at this;exact this
  ·have bK:k=t0.length:=by omega
   subst bK;have Y:qa t0:=fun i J=>HK.o i J J
   have aS:=Kz Y;have E:=Kz (gB.trans T.o);clear Y
   by_cases hlen:1≤t0.length∧t0.length≤16
   ·have D:=Kz hlen
    clear hlen;go_wp2_with fail;refine(fJ _ _ _ _ (by have:=D.o;omega) (by have:=D.o;omega)).mono ?_;rintro e w' ⟨rfl,x1,rfl⟩;go_wp2_with fail;go_ret;exact⟨aa (Dp ⟨D.o,aS.o⟩).symm,E.o.trans gd⟩
   ·have D:=Kz hlen
    clear hlen;go_wp2_with fail;refine(eu _ _ _ _ (by have:=D.o;omega)).mono ?_;rintro e w' ⟨rfl,x1,rfl⟩;go_wp2_with fail;go_ret;exact⟨aa (Bh fun h=>D.o h.1).symm,E.o.trans gd⟩
theorem lS(g:(af d))(t:fU)(s:ByteArray)(w:World)(hg:Rd.rd fg w cg.toList g)(B:Rd.rd ft w ct.toList t)(hl:aP g≤1048576)(ae:t.length≤1048576):
  Qz 37 #[.agg cg,.agg ct,.string s] w (.bool (kY g t s)):=by
 have HG:=Kz hg;obtain⟨J,K,O,T,aL,U,X,aN,rfl,rfl,-,aS,ah,ai,aV,aj,au⟩:=yt hg;clear hg;have HT:=Kz B;obtain⟨t0,Y,Z,aZ,rfl,rfl,-,bg,ax,ay⟩:=K8 B;clear B;obtain⟨res,H⟩:=nm (zK (J,K) t0 (t0.length+1) 0 (-1) 0 s);have D:=Kz H;have HC:=Kz (fun x:Ext=>Dj (J,K) t0 hl (t0.length+1) _ _ _ _ 0 (-1) 0 s (((w.alloc (.cells #[.slice O J.length T,.slice U K.length X] 36)).alloc (.cells #[.slice Y t0.length Z] 40)).ext x) (Rd.gr HG.o gd) (Rd.gr HT.o gd) (by omega) (by omega) (by omega));have HI:=Kz (fun x:Ext=>Cu t0 (((w.alloc (.cells #[.slice O J.length T,.slice U K.length X] 36)).alloc (.cells #[.slice Y t0.length Z] 40)).ext x) (Rd.gr HT.o gd) ae);clear H
 by_cases q:Bt t0=true
 ·have I:=Kz q
  clear q;delta Qz;go_in;go_wp2_with fail;refine wg ?_
  repeat(go_big_quiet_step (first|(go_at_call 84;exact aG (by have:=HI.o;rw[I.o] at this;exact this _))|(go_at_call 85;exact aG (HC.o _))))
  refine wq fun nx=>?_
  rw[←D.o]
  by_cases E:res=(t0.length:Int)
  ·have HR:=Kz E
   have B:(res==(t0.length:Int))=true:=by simpa using E
   clear E;go_wp2_with fail;go_ret;exact⟨aa (by rw[B,xV (Dm.1 I.o).1 (Dm.1 I.o).2 (by rw[←D.o];exact HR.o)]),gd⟩
  ·have HR:=Kz E
   have B:(res==(t0.length:Int))=false:=by simpa using E
   clear E;go_wp2_with fail;go_ret;exact⟨aa (by rw[B,lJ fun h=>HR.o (by rw[D.o];exact h.2.2)]),gd⟩
 ·have hb:Bt t0=false:=eq_false_of_ne_true q
  have I:=Kz hb;have HN:=Kz q;clear q hb;delta Qz;go_in;go_wp2_with fail;refine wg ?_
  repeat(go_big_quiet_step (first|(go_at_call 84;exact aG (by have:=HI.o;rw[I.o] at this;exact this _))|(go_at_call 85;exact aG (HC.o _))))
  refine wq fun nx=>?_
  go_wp2_with fail;go_ret;exact⟨aa (lJ fun h=>HN.o (Dp ⟨h.1,h.2.1⟩)).symm,gd⟩
theorem nG(g:(af d))(t:fU)(w:World)(J:Rd.rd fg w cg.toList g)(K:Rd.rd ft w ct.toList t):
  Qz 42 #[.agg cg,.agg ct] w (.bool (fP g t)):=by
 have O:=Kz J;obtain⟨h,q,s,B,ai,D,E,aj,rfl,rfl,-,au,U,X,ax,Y,Z⟩:=yt J;clear J;have T:=Kz K;obtain⟨t0,H,I,ay,rfl,rfl,-,aL,ae,ah⟩:=K8 K;clear K;have H1:=Kz (fun x:Ext=>jM (h,q) t0 0 (((w.alloc (.cells #[.slice s h.length B,.slice D q.length E] 36)).alloc (.cells #[.slice H t0.length I] 40)).ext x) (Rd.gr O.o gd) (Rd.gr T.o gd));have H2:=Kz (fun x:Ext=>xM (h,q) t0 (zB (h,q) t0 0) (((w.alloc (.cells #[.slice s h.length B,.slice D q.length E] 36)).alloc (.cells #[.slice H t0.length I] 40)).ext x) (Rd.gr O.o gd) (Rd.gr T.o gd));delta Qz;go_in;go_wp2_with fail;refine wg ?_
 repeat(go_big_quiet_step (first|(go_at_call 93;exact aG (H1.o _))|(go_at_call 92;exact aG (H2.o _))))
 refine wq fun nx=>?_
 go_wp2_with fail;go_ret;exact⟨rfl,gd⟩
theorem Tryz.o6:(Tryz.prog.info? 63).map (fun i=>(i.zero,i.size,i.bytes))=some (some (.agg #[.int .i64 0,.string ByteArray.empty]),2,24):=by kernel_rfl
def p8{α:Type}[Rd α](w:World)(xs:List α)(e:Ending)(w':World):Prop:=
 ∃v fq,e=.returned v∧SlR fq w' v xs∧aY w fq∧Gr w w'
theorem xn{ss:List bC}(h:dH ss≤1048576)(n:ByteArray):((bW ss n).getD dE).2.length≤1048576:=by
 unfold bW
 cases q:ss.find? (fun s=>decide (s.1=n)) with
 |none=>simp[dE]
 |some y=>
  have hm:=List.mem_of_find?_eq_some q;obtain⟨i,B,rfl⟩:=List.mem_iff_getElem.1 hm;have D:=dI bM ss B;have E:(ss[i].2).length≤bM ss[i]:=le_trans (bT bI _) (Nat.le_add_left _ _);have H:wtL bM ss≤1048576:=h;rw[Option.getD_some];omega
theorem uU{α β:Type}(f:α→List β)(M:Nat)(l:List α)(h:∀x∈l,(f x).length≤M):(l.flatMap f).length≤l.length*M:=by
 induction l with
 |nil=>simp
 |cons a l q=>
  rw[List.flatMap_cons,List.length_append,List.length_cons,Nat.add_mul];have:=h a (by simp);have:=q (fun x s=>h x (List.mem_cons_of_mem _ s));omega
theorem FP(h:aP g≤1048576)(n:aT):(ll g n).length≤1048576:=by
 unfold ll;rw[List.length_map];have hw:dH g.1+gz g.2≤1048576:=h;exact xn (by omega) _
theorem yZ(h:aP g≤1048576)(q:fP g t=true)(k:Nat):((t.take k).flatMap (ll g)).length≤16777216:=by
 have B:=uU (ll g) 1048576 (t.take k) (fun x _=>FP h x)
 have s:(t.take k).length≤16:=by
  have:=(jv.1 q).1.2;rw[List.length_take];omega
 have:=Nat.mul_le_mul_right 1048576 s;omega
def mK(w W:World)(y:bC)(s:Value)(wr:World):Prop:=
 ∃b v fq,s=.pointer (some ⟨b,0,none⟩)∧Gr W wr∧wr.cell? ⟨b,0,none⟩=some (.string y.1)∧wr.cell? ⟨b,1,none⟩=some v∧SlR fq wr v y.2∧y.1.size≤maxLen∧W.heap.size≤b∧∀c∈fq,c<w.heap.size∨W.heap.size≤c
theorem SlR.vY{α:Type}[Rd α]{w:World}{b off len cap:Nat}{xs:List α}(h:SlR fp w (.slice (some ⟨b,off,none⟩) len cap) xs)(s:xs≠[]):b∈fp:=by
 obtain⟨a,c,B,_,_,⟨D,_⟩|⟨H,E,fps,_,rfl,rfl,_⟩⟩:=h
 ·exact absurd D s
 ·injection B with q _ _
  injection q with q;injection q with q _ _;subst q;simp
theorem dO{o o':Obj}(h:∀c∈fp,c≠A.heap.size):fB fp ((A.alloc o).ext x) ((A.alloc o').ext x):=fun c hc=>qZ x (h c hc)
theorem dM{o o':Obj}{y:Ext}(h:∀c∈fp,c≠A.heap.size):fB fp (((A.alloc o).ext x).ext y) (((A.alloc o').ext x).ext y):=by
 rw[iV,iV];exact dO h
theorem iR{o o':Obj}{y z:Ext}(h:∀c∈fp,c≠A.heap.size):fB fp ((((A.alloc o).ext x).ext y).ext z) ((((A.alloc o').ext x).ext y).ext z):=by
 rw[iV,iV,iV,iV];exact dO h
theorem Wr.more{q s:Option Nat}{W wr B:World}(h:Wr q.toList W wr)(H:s=q∨∃n,s=some n∧W.heap.size≤n)(k:Wr s.toList wr B):Wr q.toList W B:=
 ⟨k.os.trans h.os,k.tape.trans h.tape,k.output.trans h.output,le_trans h.size k.size,le_trans h.drawn k.drawn,fun b D E=>(k.block b (Nat.lt_of_lt_of_le D h.size) (by
  rcases H with rfl|⟨n,rfl,I⟩
  ·exact E
  ·simp;omega)).trans (h.block b D E)⟩
theorem tq{s q h:Option Nat}{W wr:World}(B:q=s∨∃n,q=some n∧W.heap.size≤n)(k:h=q∨h=some wr.heap.size)(D:W.heap.size≤wr.heap.size):h=s∨∃n,h=some n∧W.heap.size≤n:=by
 rcases k with rfl|rfl
 ·exact B
 ·exact .inr ⟨_,rfl,D⟩
theorem rG{r:aW d}{o:ag}(h:0≤o.1∧o.1≤(r.2.2.1.length:Int)):jf g r o=ek ((bW g.1 (j6 r o.1)).getD dE).2 o.2:=by unfold jf Je;rw[if_pos h]
theorem tV{r:aW d}{o:ag}(h:¬(0≤o.1∧o.1≤(r.2.2.1.length:Int))):jf g r o=none:=by unfold jf;rw[if_neg h]
set_option maxRecDepth 100000 in
theorem mM(g:af d)(r:aW d)(o:ag)(w:World)(hg:Rd.rd fg w cg.toList g)(s:Rd.rd fr w cr.toList r)(ho:Rd.rd fo w co.toList o):
  Calls Tryz.prog 146 #[.agg cg,.agg cr,.agg co] w (Found [] w (jf g r o) dR):=by
 have HG:=Kz hg;obtain⟨K,g1,ai,aj,ku,au,ax,kz,rfl,rfl,-,kE,gm,gD,kL,gF,gH⟩:=yt hg;clear hg;have HR:=Kz s;obtain⟨Z,r1,J,r3,r4,r5,aL,aN,kQ,aS,aV,kS,aZ,bg,kT,rfl,rfl,-,kV,kX,kZ,gM,gT,lq,ik,iw,lG,jN,jX⟩:=KV s;clear s;obtain⟨q,O,rfl,rfl,-,lV,l5⟩:=KT ho;clear ho
 by_cases H:0≤q∧q≤(J.length:Int)
 ·have hb:(decide (0≤q)&&decide (q≤(J.length:Int)))=true:=by rw[decide_eq_true H.1,decide_eq_true H.2];rfl
  have D:=rG (g:=(K,g1)) (r:=(Z,r1,J,r3,r4,r5)) (o:=(q,O)) H;obtain⟨S,hS⟩:=nm (j6 (Z,r1,J,r3,r4,r5) q);simp only at D;rw[←hS] at D;obtain⟨Y,hY⟩:=nm ((bW K S).getD dE);rw[←hY] at D;have HY:=Kz D;have bV:=Kz hY;have cK:=Kz hS;clear D hY hS H;go_in;go_wp2_with fail;refine(di _ _ _ _).mono ?_;rintro e w' ⟨rfl,rfl⟩;rw[hb];clear hb;go_wp2_with fail;generalize T:((((w.alloc (.cells #[.slice ai K.length aj,.slice au g1.length ax] 36)).alloc (.cells #[.string Z,.string r1,.slice aL J.length aN,.bool r3,.slice aS r4.length aV,.slice aZ r5.length bg] 112)).alloc (.cells #[.int .i64 q,.string O] 132)).alloc (.cells #[.string ⟨#[]⟩,.int .i64 0,.int .i64 0,.bool false] 81))=B;have gB:Gr w B:=gb T;obtain⟨l6,l7⟩:=kb2 T (w.heap.size) (.slice ai K.length aj) (.slice au g1.length ax);obtain⟨l8,ma,mf,mh,mo,mq⟩:=kb6 T (w.heap.size+1) (.string Z) (.string r1) (.slice aL J.length aN) (.bool r3) (.slice aS r4.length aV) (.slice aZ r5.length bg);obtain⟨cO,dz⟩:=kb2 T (w.heap.size+1+1) (.int .i64 q) (.string O);obtain⟨bK,bL⟩:=kb2 T (w.heap.size+2) (.int .i64 q) (.string O);have sB:B.heap.size=w.heap.size+4:=szB T;have EB:=Kz T;clear T
  go_cut [8] (fun s8 wr=>mK w B Y s8 wr)
  case first=>
   go_region_held3 (fun w'=>Gr B w') (exact ga)
    (first|(go_at_call 210;refine(jF (Z,r1,J,r3,r4,r5) q _ (Rd.gr HR.o (gB.trans ga))).mono ?_;rintro e w' ⟨rfl,x2,rfl⟩;rw[←cK.o])|(go_at_call 94;refine(dY (K,g1) S _ (Rd.gr HG.o (gB.trans ga))).mono ?_;rintro e w' ⟨es,fq,rfl,s,bq,x3,rfl⟩;obtain⟨s0,s1,dA,dC,bB,ae,rfl,dG,dL,U,j4,j5⟩:=Lg (x:=(bW K S).getD dE) s;have dU:=Kz ae;have mr:=Lt ae s;clear s ae;obtain⟨bb,E⟩:∃b:Bool,b=(bW K S).isSome:=⟨_,rfl⟩;rw[←E];have bD:=Kz E;clear E;have dW:=Kz bq;clear bq))
   all_goals
    go_wp2_with fail;go_meet;have hY:Y=(s0,s1):=bV.o.trans dU.o.symm;subst hY;have X:∀c∈bB,c<w.heap.size∨_≤c:=fun c hc=>(dW.o c (by rw[dG.o];simpa using hc)).imp (Rd.lt HG.o c) id
    refine⟨_,.slice dA s1.length dC,bB,rfl,gd,?_,?_,?_,dL,by first|omega|(simp;done)|(simp;omega),fun c hc=>(X c hc).imp id (fun h=>by simp at h;omega)⟩
    ·exact kd
    ·exact kd
    ·first
      |(refine U.gr ?_;(repeat(first|exact Gr.refl _|apply Gr.ext|apply Gr.alloc|apply Gr.drew));done)
      |((with_reducible refine U.mono (dO ?_));exact fun c hc e=>by subst e;have:=X _ hc;simp at this;omega)
      |((with_reducible refine U.mono (dM ?_));exact fun c hc e=>by subst e;have:=X _ hc;simp at this;omega)
      |((with_reducible refine U.mono (iR ?_));exact fun c hc e=>by subst e;have:=X _ hc;simp at this;omega)
  case rest=>
   obtain⟨b8,v8,fs,rfl,I,d0,d1,sl,eH,-,-⟩:=hcut
   rename World=>W6
   obtain⟨ay,ky,rfl,mH,mZ,nz⟩:=sl.open;have z0:=blk d0;have fe:=Kz (iQ Y.1 Y.2 eH sl);have bN:=Kz I;have e8:=I.keep (cO _ (Gr.refl _));have e9:=I.keep (dz _ (Gr.refl _));have nM:=I.keep (bK _ (Gr.refl _));have nO:=I.keep (bL _ (Gr.refl _));have ze:=blk e8;clear sl I;go_wp2_with fail;refine(jA Y O _ (Rd.gr fe.o gd)).mono ?_;rintro e w' ⟨es,fq,rfl,s,-,x3,rfl⟩;obtain⟨t0,t1,t2,t3,ah,rfl,-,fu,fw,fA⟩:=Ld (x:=(ek Y.2 O).getD dR) s;have fK:=Kz ah;have nP:=Lt ah s;clear s ah;obtain⟨bb,E⟩:∃b:Bool,b=(ek Y.2 O).isSome:=⟨_,rfl⟩;rw[←E];have bD:=Kz E;clear E;obtain⟨y,rfl⟩:=bN.o;obtain rfl:=EB.o;go_wp2_with fail
   exact bodyPost_ret (v:=.tuple #[.agg #[.string t0,.int .i64 t1,.int .i64 t2,.bool t3],.bool bb])
    (by simp[results,Tryz.results146,go_sem]) rfl ⟨_,[],by rw[HY.o,←bD.o],by rw[HY.o,←fK.o];exact jk t0 t1 t2 t3 fu fw fA,by simp,gd⟩
 ·have hb:(decide (0≤q)&&decide (q≤(J.length:Int)))=false:=Bool.and_eq_false_iff.2 (by by_cases h:0≤q<;>simp_all<;>omega)
  have bH:=Kz (tV (g:=(K,g1)) (r:=(Z,r1,J,r3,r4,r5)) (o:=(q,O)) H);clear H;go_in;go_wp2_with fail;refine(di _ _ _ _).mono ?_;rintro e w' ⟨rfl,rfl⟩;rw[hb];clear hb;go_wp2_with fail
  exact bodyPost_ret (v:=.tuple #[.agg #[.string ⟨#[]⟩,.int .i64 0,.int .i64 0,.bool false],.bool false])
   (by simp[results,Tryz.results146,go_sem]) rfl ⟨_,_,by rw[bH.o];rfl,by rw[bH.o];exact oD _,by simp,gd⟩
set_option maxRecDepth 100000 in
theorem xK(g:af d)(r:aW d)(o:ag)(w:World)(B:Rd.rd fg w cg.toList g)(h:Rd.rd fr w cr.toList r)(D:Rd.rd fo w co.toList o):
  Qz 293 #[.agg cg,.agg cr,.agg co] w (.bool (pB (qp g r o))):=by
 rw[←BI];have HG:=Kz B;obtain⟨J,K,bq,bB,bD,bH,bK,bL,rfl,rfl,-,bN,aj,au,bV,ax,ay⟩:=yt B;clear B;have HR:=Kz h;obtain⟨O,T,U,X,Y,Z,cK,cO,dz,dA,dC,dG,dL,dU,dW,rfl,rfl,-,eH,fe,fu,aL,aN,fw,aS,aV,fA,aZ,bg⟩:=KV h;clear h;have HO:=Kz D;obtain⟨E,o1,rfl,rfl,-,fK,gm⟩:=KT D;clear D;obtain⟨A,H⟩:=nm (jf (J,K) (O,T,U,X,Y,Z) (E,o1));rw[←H];obtain⟨R,I⟩:=nm (Fx A E);simp only;rw[←I];have HA:=Kz H;have ae:=Kz I;clear H I;delta Qz;go_in;go_wp2_with fail;refine(mM (J,K) (O,T,U,X,Y,Z) (E,o1) _ (Rd.gr HG.o gd) (Rd.gr HR.o gd) (Rd.gr HO.o gd)).mono ?_;rintro e w' ⟨es,fq,rfl,h,-,x3,rfl⟩;rw[←HA.o] at h ⊢;obtain⟨t0,t1,t2,t3,q,rfl,-,gB,gD,gF⟩:=Ld (x:=A.getD dR) h;have ah:=Kz q;have gH:=Lt q h;clear h q;obtain⟨bb,s⟩:∃b:Bool,b=A.isSome:=⟨_,rfl⟩;rw[←s];have ai:=Kz s;clear s;go_wp2_with fail
 go_ways
 all_goals
  go_ret;refine⟨aa ?_,gd⟩;rw[ae.o];unfold Fx;rw[←ai.o,←ah.o]
  first|(simp_all;done)
set_option maxRecDepth 100000 in
theorem xP(g:af d)(r:aW d)(o:ag)(w:World)(hg:Rd.rd fg w cg.toList g)(D:Rd.rd fr w cr.toList r)(ho:Rd.rd fo w co.toList o)(hl:aP g≤1048576):
  Qz 330 #[.agg cg,.agg cr,.agg co] w (.bool (pB (qp g r o))):=by
 rw[←BI];have bV:=Kz hl;have HG:=Kz hg;obtain⟨J,g1,au,ax,ku,aL,aN,kz,rfl,rfl,-,kE,gm,gD,kL,gF,gH⟩:=yt hg;clear hg;have HR:=Kz D;obtain⟨K,O,H,T,U,X,aS,aV,kQ,aZ,bg,kS,bq,bB,kT,rfl,rfl,-,kV,kX,kZ,gM,gT,lq,ik,iw,lG,jN,jX⟩:=KV D;clear D;obtain⟨q,o1,rfl,rfl,-,lV,l5⟩:=KT ho;clear ho;clear hl;obtain⟨A,hA⟩:=nm (jf (J,g1) (K,O,H,T,U,X) (q,o1));rw[←hA];obtain⟨R,hR⟩:=nm (Fx A q);simp only;rw[←hR];have bD:=Kz hR;clear hR
 by_cases I:0≤q∧q≤(H.length:Int)
 ·have hb:(decide (0≤q)&&decide (q≤(H.length:Int)))=true:=by rw[decide_eq_true I.1,decide_eq_true I.2];rfl
  have s:=rG (g:=(J,g1)) (r:=(K,O,H,T,U,X)) (o:=(q,o1)) I;rw[←hA] at s;obtain⟨S,hS⟩:=nm (j6 (K,O,H,T,U,X) q);simp only at s;rw[←hS] at s;obtain⟨Y,hY⟩:=nm ((bW J S).getD dE);rw[←hY] at s;have HY:=Kz s;have cK:=Kz hY;have cO:=Kz hS;clear s hY hS I hA;delta Qz;go_in;go_wp2_with fail;refine(fI _ _ _ _).mono ?_;rintro e w' ⟨rfl,rfl⟩;rw[hb];clear hb;go_wp2_with fail;generalize hB:(((w.alloc (.cells #[.slice au J.length ax,.slice aL g1.length aN] 36)).alloc (.cells #[.string K,.string O,.slice aS H.length aV,.bool T,.slice aZ U.length bg,.slice bq X.length bB] 112)).alloc (.cells #[.int .i64 q,.string o1] 132))=B;have gB:Gr w B:=gb hB;obtain⟨l6,l7⟩:=kb2 hB (w.heap.size) (.slice au J.length ax) (.slice aL g1.length aN);obtain⟨l8,ma,mf,mh,mo,mq⟩:=kb6 hB (w.heap.size+1) (.string K) (.string O) (.slice aS H.length aV) (.bool T) (.slice aZ U.length bg) (.slice bq X.length bB);obtain⟨dz,dA⟩:=kb2 hB (w.heap.size+1+1) (.int .i64 q) (.string o1);have sB:B.heap.size=w.heap.size+3:=szB hB;clear hB;have dC:=Kz gB
  go_cut [7] (fun s8 wr=>mK w B Y s8 wr)
  case first=>
   go_region_held3 (fun w'=>Gr B w') (exact ga)
    (first|(go_at_call 184;refine(iG (K,O,H,T,U,X) q _ (Rd.gr HR.o (gB.trans ga))).mono ?_;rintro e w' ⟨rfl,x2,rfl⟩;rw[←cO.o])|(go_at_call 59;refine(dX (J,g1) S _ (Rd.gr HG.o (gB.trans ga)) bV.o).mono ?_;rintro e w' ⟨es,fq,rfl,D,bH,x3,rfl⟩;obtain⟨s0,s1,dG,dL,bK,ai,rfl,dU,dW,Z,j4,j5⟩:=Lg (x:=(bW J S).getD dE) D;have eH:=Kz ai;have mr:=Lt ai D;clear D ai;obtain⟨bb,E⟩:∃b:Bool,b=(bW J S).isSome:=⟨_,rfl⟩;rw[←E];have bL:=Kz E;clear E;have fe:=Kz bH;clear bH))
   all_goals
    go_wp2_with fail;go_meet;have hY:Y=(s0,s1):=cK.o.trans eH.o.symm;subst hY;have ae:∀c∈bK,c<w.heap.size∨_≤c:=fun c hc=>(fe.o c (by rw[dU.o];simpa using hc)).imp (Rd.lt HG.o c) id
    refine⟨_,.slice dG s1.length dL,bK,rfl,gd,?_,?_,?_,dW,by first|omega|(simp;done)|(simp;omega),fun c hc=>(ae c hc).imp id (fun h=>by simp at h;omega)⟩
    ·exact kd
    ·exact kd
    ·first
      |(refine Z.gr ?_;(repeat(first|exact Gr.refl _|apply Gr.ext|apply Gr.alloc|apply Gr.drew));done)
      |((with_reducible refine Z.mono (dO ?_));exact fun c hc e=>by subst e;have:=ae _ hc;simp at this;omega)
      |((with_reducible refine Z.mono (dM ?_));exact fun c hc e=>by subst e;have:=ae _ hc;simp at this;omega)
      |((with_reducible refine Z.mono (iR ?_));exact fun c hc e=>by subst e;have:=ae _ hc;simp at this;omega)
  case rest=>
   obtain⟨b8,v8,fs,rfl,ah,d0,d1,sl,fu,-,-⟩:=hcut
   rename World=>W6
   obtain⟨ay,ky,rfl,mH,mZ,nz⟩:=sl.open;have fw:=Kz (iQ Y.1 Y.2 fu sl);have bN:=Kz ah;have e8:=ah.keep (dz _ (Gr.refl _));have e9:=ah.keep (dA _ (Gr.refl _));have ze:=blk e8;clear sl ah;go_wp2_with fail;refine(jC Y o1 _ (Rd.gr fw.o gd)).mono ?_;rintro e w' ⟨es,fq,rfl,D,-,x3,rfl⟩;rw[←HY.o] at D ⊢;obtain⟨t0,t1,t2,t3,aj,rfl,-,nM,nO,nP⟩:=Ld (x:=A.getD dR) D;have fA:=Kz aj;have nS:=Lt aj D;clear D aj;obtain⟨bb,E⟩:∃b:Bool,b=A.isSome:=⟨_,rfl⟩;rw[←E];have bL:=Kz E;clear E;go_wp2_with fail
   go_ways
   all_goals
    go_ret;refine⟨aa ?_,(dC.o.trans bN.o).trans gd⟩;rw[bD.o];unfold Fx;rw[←bL.o,←fA.o]
    first|(simp_all;done)
 ·have hb:(decide (0≤q)&&decide (q≤(H.length:Int)))=false:=Bool.and_eq_false_iff.2 (by by_cases h:0≤q<;>simp_all<;>omega)
  have fK:=Kz (hA.trans (tV (g:=(J,g1)) (r:=(K,O,H,T,U,X)) (o:=(q,o1)) I));clear I hA;delta Qz;go_in;go_wp2_with fail;refine(fI _ _ _ _).mono ?_;rintro e w' ⟨rfl,rfl⟩;rw[hb];clear hb;go_wp2_with fail;go_ret;exact⟨aa (by rw[bD.o,fK.o];rfl),gd⟩
end Go.Proofs.YtdhighcpmcdmmaaGreat
