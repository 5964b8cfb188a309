/- Contracts and laws towards ReadsOf, part 23 of 54. No condition. -/
import Derived.Test.YtleafadpfeibfaaGreatRx21
set_option maxHeartbeats 32000000
set_option maxRecDepth 10000
set_option linter.unusedVariables false
set_option linter.unusedSimpArgs false
namespace Go.Proofs.YtleafadpfeibfaaGreat
open Go.RowKit
open _root_.Nat (le_trans)
variable{d:Nat}
variable{t:List aT}{fg fp ft fr fo:List Nat}{cg ct cr co:Array Value}{g:af d}{A:World}{x:Ext}
set_option maxRecDepth 100000 in
theorem Dj(g:af d)(t:List aT)(hl:aP g≤1048576):∀(f:Nat) (fg ft:List Nat) (cg ct:Array Value) (i parent place:Int) (s:ByteArray) (w:World) (hg:Rd.rd fg w cg.toList g) (ht:Rd.rd ft w ct.toList t) (h0:0≤i) (h1:i≤140737488351233) (hf:(t.length:Int)<i+f),
    Qz 95 #[.agg cg,.agg ct,.int .i64 i,.int .i64 parent,.int .i64 place,.string s] w (.int .i64 (zK g t f i parent place s)):=by
  have o9:=Kz hl;intro f
  induction f with
  |zero=>
    intro fg ft cg ct i parent place s w hg ht h0 h1 hf
    have hz:zK g t 0 i parent place s= -1:=rfl;have HZ:=Kz hz;clear hz;have HG:=Kz hg;obtain⟨g0,g1,ag0,kg0,qb,ag1,kg1,q8,rfl,rfl,zl,bR,gT,gV,bX,gX,kr⟩:=yt hg;have x9:=bR.op3;have yc:=bX.op3;clear hg;have HT:=Kz ht;obtain⟨t0,q9,aj,sO,rfl,rfl,zn,Y,ku,ky⟩:=K8 ht;have ak:=Y.op3;clear ht;have Z:(t0.length:Int)≤i:=by omega
    delta Qz;go_in;go_wp2_with fail;go_ret;exact⟨aC HZ.o.symm,gd⟩
  |succ f ih=>
    intro fg ft cg ct i parent place s w hg ht h0 h1 hf
    have IH:=Kz ih;clear ih;have HG:=Kz hg;obtain⟨g0,g1,ag0,kg0,qb,ag1,kg1,q8,rfl,rfl,-,bR,gT,gV,bX,gX,kr⟩:=yt hg;clear hg;have HT:=Kz ht;obtain⟨t0,q9,aj,sO,rfl,rfl,-,Y,ku,ky⟩:=K8 ht;have ak:=Y.op3;clear ht
    by_cases cB:i<(t0.length:Int)
    · obtain⟨n,rfl⟩:∃n:Nat,i=n:=⟨i.toNat,by omega⟩
      have au:n<t0.length:=by omega
      have hn:=gG (l:=t0) au;have I:=Kz hn;clear hn;obtain⟨b,off,rfl,ae⟩:=ak n au;obtain⟨q0,q1,q2,q3,q4,q5,cK,cO,zo,zq,uf,zu,zx,zy,zH,zL,zO,dB,yu,y7,z8,A7,BM,EB,E5,FX,F4⟩:=KZ Y au (Gr.refl _);have lq:=dB.op3;rw[←uf.o] at I;have HF:=Kz hf;have F5:n+1≤140737488351233:=by omega
      clear hf cB;delta Qz;go_in;go_wp2_with fail;refine(iM (g0,g1) q4 _ (Rd.gr HG.o gd) o9.o).mono ?_;rintro e w' ⟨es,fq,rfl,hr,-,x2,rfl⟩;obtain⟨r0,r1,q,J,r4,r5,ax,ay,uo,uq,uz,F6,ve,vB,F8,aZ,rfl,-,Ha,He,bg,y8,y9,-,za,zb,-,ze,zf⟩:=KV (x:=(dJ g1 q4).getD fH) hr;have vD:=Kz aZ;have HV:=Lt aZ hr;have oH:=bg.op3;clear hr aZ;obtain⟨bb,ae⟩:∃b:Bool,b=(dJ g1 q4).isSome:=⟨_,rfl⟩;rw[←ae];have dS:=Kz ae;clear ae
      cases bb with
      |false=>
        go_wp2_with fail;go_ret;exact⟨aC (rF I.o (EO dS.o)).symm,gd⟩
      |true=>
        have HR:=Kz (EX vD.o dS.o)
        go_upto_region 7 with fail
        rotate_left
        · skip
          obtain rfl:=str_inj (show r1.toList=s.toList by assumption);obtain rfl:=(show q1=parent by assumption);obtain rfl:=(show q2=place by assumption);have U:Ky (q5.length=q.length):=Kz (by have:=int_eq (show((q5.length:Int)!=(q.length:Int))=false by assumption);omega);generalize K:(((((w.alloc (.cells #[.slice ag0 g0.length kg0,.slice ag1 g1.length kg1] 39)).alloc (.cells #[.slice (some ⟨b,off,none⟩) t0.length aj] 43)).alloc (.cells #[.int .i64 q0,.int .i64 q1,.int .i64 q2,.int .i64 q3,.string q4,.slice cK q5.length cO] 130)).ext x2).alloc (.cells #[.string r0,.string r1,.slice ax q.length ay,.bool J,.slice uq r4.length uz,.slice ve r5.length vB] 128))=B;have gB:Gr w B:=gb K;obtain⟨vF,vG⟩:=kb2 K (w.heap.size) (.slice ag0 g0.length kg0) (.slice ag1 g1.length kg1);have vL:=kb K (w.heap.size+1) 0 (.slice (some ⟨b,off,none⟩) t0.length aj);have vO:=kb K (w.heap.size+1+1) 3 (.int .i64 q3);have vR:=kb K (w.heap.size+1+1) 5 (.slice cK q5.length cO);have oL:=kb K (w.heap.size+1+1+1+x2.objs.size) 2 (.slice ax q.length ay);have o5:=kb K (w.heap.size+1+1+1+x2.objs.size) 3 (.bool J);have vX:SlR uo B (.slice ax q.length ay) q:=by rw[←K];exact bg.gr gd
          clear K;have u6:=vO B (Gr.refl _);have v6:=blk u6;have wF:=o5 B (Gr.refl _);have v12:=blk wF
          go_cut [77] (fun wL wr=>∃b,wL=.bool b∧(b=!nL q3 J)∧B=wr)
          case first=>
            go_wp2_with fail;refine(Ct _ _).mono ?_;rintro e w' ⟨rfl,rfl⟩
            have bL:(decide (-1000000≤q3)&&decide (q3≤1000000))=false∨(decide (-1000000≤q3)&&decide (q3≤1000000))=true∧(J=true∨(J=false∧q3≠0)∨(J=false∧q3=0)):=by
              cases J<;>by_cases hq:q3=0<;>cases (decide (-1000000≤q3)&&decide (q3≤1000000))<;>simp[hq]
            rcases bL with hA|⟨hA,rfl|⟨rfl,hq⟩|⟨rfl,rfl⟩⟩<;>
              (have HA:=Kz hA
               go_wp2_with fail;go_meet;refine⟨_,rfl,?_,rfl⟩;have:=HA.o;unfold nL
               first|(simp_all;done)|(simp at this ⊢<;>omega))
          case rest=>
            obtain⟨b,rfl,hL,rfl⟩:=hcut;have HL:=Kz hL;clear hL
            cases b with
            |true=>
              go_wp2_with fail;go_ret;exact⟨aC (ib I.o HR.o fun h=>by have:=HL.o;rw[h.2.2.2.2] at this;exact absurd this (by simp)).symm,gB.trans gd⟩
            |false=>
              replace HL:=Kz (show nL q3 J=true by have:=HL.o;simpa using this);obtain⟨dV,V⟩:=nm (zK (g0,g1) t0 (f+1) (n:Int) q1 q2 r1);have X:=Kz V
              have hz:KD (fun at_ k s=>zK (g0,g1) t0 f at_ (n:Int) k s) q5 q 1 ((n:Int)+1)=dV:=by
                rw[V];exact(nE (r:=(r0,r1,q,J,r4,r5)) I.o HR.o ⟨rfl,rfl,rfl,U.o,HL.o⟩).symm
              have HZ:=Kz hz;clear hz V;have iw:=zI1 n (by omega);go_wp2_with fail;clear bg
              go_loopw [17,16] (fun bB w9 wr=>∃(k:Nat) (a:Int),k≤q5.length∧Ky (KD (fun at_ k s=>zK (g0,g1) t0 f at_ (n:Int) k s) (q5.drop k) (q.drop k) (k+1) a=dV)∧(n:Int)+1≤a∧a≤(t0.length:Int)∧Gr B wr∧bB=.int .i64 k∧w9=.int .i64 a) (fun bB _ _=>q5.length - (intOf bB).toNat)
              case atStart=>exact⟨0,(n:Int)+1,by omega,Kz (by simpa using HZ.o),by omega,by omega,Gr.refl _,rfl,rfl⟩
              case round=>
                obtain⟨k,a,hk,HK,fe,fu,hg,rfl,rfl⟩:=hrel
                rename World=>W1
                have ah:=Kz hg;have y0:=vF _ hg;have y1:=vG _ hg;have y2:=vL _ hg;have y5:=oL _ hg;have y6:=vR _ hg;have HY:=blk y0;have H5:=blk y2;have IV:=blk y5;clear hg
                by_cases O:k<q5.length
                · have D:k<q.length:=by have:=U.o;omega
                  have gD:Gr w W1:=gB.trans ah.o;have T:=Kz gD;obtain⟨bq,KX,rfl,K3⟩:=lq k O;obtain⟨br,K4,rfl,K6⟩:=oH k D;have c1:=T.o.keep (dB.fQ O).1;have c2:=ah.o.keep (vX.jl D).1;have La:=blk c2;clear gD
                  by_cases gF:q5[k]=a
                  · obtain rfl:=gF
                    obtain⟨res,hr⟩:=nm (zK (g0,g1) t0 f q5[k] (n:Int) ((k:Int)+1) q[k]);have ai:=Kz hr
                    have Z:-1≤res∧(0≤res→q5[k]<res∧res≤(t0.length:Int)):=by
                      rw[hr];exact⟨rZ _ _ _ _ _ _ _,rX _ _ _ _ _ _ _⟩
                    have ik:=zI1 k (by omega);have i2:(0:Int)≤(k:Int):=by omega
                    have i3:(k:Int)<(q.length:Int):=by omega
                    have i4:(k:Int)<(q5.length:Int):=by omega
                    have HB:=Kz (And.intro fe (And.intro fu Z));have HC:=Kz (fun x:Ext=>IH.o _ _ _ _ q5[k] (n:Int) ((k:Int)+1) q[k] (W1.ext x) (Rd.gr HG.o (tg T)) (Rd.gr HT.o (tg T)) (by omega) (by omega) (by have:=HF.o;omega));clear hr fe fu Z;go_wp2_with fail;refine wg ?_
                    repeat(go_big_quiet_step ((go_at_call 95;exact aG (HC.o _))))
                    refine wq fun nx=>?_
                    rw[←ai.o];clear ik
                    by_cases bH:res<0
                    · go_wp2_with fail
                      go_ret;have:=HB.o;exact⟨aC (by rw[←X.o,←HK.o,pz O D rfl (by rw[←ai.o];exact bH)]),T.o.trans gd⟩
                    · go_wp2_with fail
                      refine⟨⟨k+1,res,by omega,Kz ?_,by have:=HB.o;omega,by have:=HB.o;omega,ah.o.trans gd,by go_num,rfl⟩,by simp[intOf];omega⟩;rw[←HK.o,rA O D rfl (by rw[←ai.o];exact bH),←ai.o]
                  · have xc:=Kz gF
                    have i4:(k:Int)<(q5.length:Int):=by omega
                    go_wp2_with fail;go_ret;exact⟨aC (by rw[←X.o,←HK.o,o8 O D xc.o]),T.o.trans gd⟩
                · have zg:¬k<q.length:=by have:=U.o;omega
                  go_wp2_with fail;go_ret;exact⟨aC (by rw[←X.o,←HK.o,pq (by omega)]),(gB.trans ah.o).trans gd⟩
        all_goals
          go_ret
          first
            |exact⟨aC (ib I.o HR.o fun h=>by have h4:=h.2.2.2.1;have:=int_ne (show((q5.length:Int)!=(q.length:Int))=true by assumption);simp only at h4;omega).symm,gd⟩
            |exact⟨aC (ib I.o HR.o fun h=>by have:=h.2.2.1;contradiction).symm,gd⟩
            |exact⟨aC (ib I.o HR.o fun h=>by have:=h.2.1;contradiction).symm,gd⟩
            |exact⟨aC (ib I.o HR.o fun h=>by have:=h.1;simp_all).symm,gd⟩
    · have hn:nth t0 i=none:=jY (by omega)
      have I:=Kz hn;have Z:(t0.length:Int)≤i:=by omega
      clear hn cB;delta Qz;go_in;go_wp2_with fail;go_ret;exact⟨aC (xy I.o).symm,gd⟩
noncomputable def Bt(t:List aT):Bool:=@decide ((1≤t.length∧t.length≤16)∧qa t) (Classical.propDecidable _)
theorem Dp(h:(1≤t.length∧t.length≤16)∧qa t):Bt t=true:=by unfold Bt;exact @decide_eq_true _ (Classical.propDecidable _) h
theorem Bh(h:¬((1≤t.length∧t.length≤16)∧qa t)):Bt t=false:=by unfold Bt;exact @decide_eq_false _ (Classical.propDecidable _) h
theorem Dm:Bt t=true↔(1≤t.length∧t.length≤16)∧qa t:=by unfold Bt;exact @decide_eq_true_iff _ (Classical.propDecidable _)
theorem CW{k:Nat}(h:k<t.length):((t.take k).map (·.1)).any (fun z=>t[k].1==z)=true↔∃j,∃q:j<t.length,j<k∧t[j].1=t[k].1:=by
 rw[List.any_eq_true];constructor
 ·rintro⟨z,hz,B⟩
  obtain⟨j,q,rfl⟩:=List.mem_iff_getElem.1 hz;have D:j<k:=by simp at q;omega
  simp only[List.getElem_map,List.getElem_take,beq_iff_eq] at B;exact⟨j,by omega,D,B.symm⟩
 ·rintro⟨j,q,I,e⟩
  refine⟨t[j].1,?_,by simpa using e.symm⟩;rw[List.mem_iff_getElem];exact⟨j,by simp;omega,by simp⟩
set_option maxRecDepth 100000 in
theorem Cu(t:fU)(w:World)(ht:Rd.rd ft w ct.toList t)(hl:t.length≤1048576):
  Qz 94 #[.agg ct] w (.bool (Bt t)):=by
 obtain⟨i0,hi⟩:=info_parts Tryz.kJ;have Z:=Kz hi;clear hi;obtain⟨t0,ae,ah,dV,rfl,rfl,-,ai,cK,cO⟩:=K8 ht;have ay:=ai.op3;clear ht;delta Qz;go_in;go_wp2_with fail;generalize hB:(w.alloc (.cells #[.slice ae t0.length ah] 43))=B;have gB:Gr w B:=gb hB;have bq:=kb hB (w.heap.size) 0 (.slice ae t0.length ah);have sB:B.heap.size=w.heap.size+1:=szB hB;clear hB
 go_loopw [4,3] (fun s4 s3 wr=>∃(k:Nat) (fps:List (List Nat)),k≤t0.length∧Ky (∀i (h:i<t0.length),i<k→(1≤t0[i].1∧t0[i].1≤999)∧∀j (hj:j<t0.length),j<i→t0[j].1≠t0[i].1)∧Gr B wr∧Ky (fps.flatten=[])∧bE (α:=Int) B 3 wr s3 fps ((t0.take k).map (·.1))∧s4=.int .i64 k) (fun s4 _ _=>t0.length - (intOf s4).toNat)
 case atStart=>exact⟨0,[],by omega,Kz (by omega),gd,Kz rfl,bE.kF (α:=Int) (w0:=B) (w:=B) 3 (Nat.le_refl _) (by omega),rfl⟩
 case round=>
  obtain⟨k,fps,hk,HK,hg,HF,hown,rfl⟩:=hrel
  rename World=>W1
  have U:=Kz hg;have HO:=Kz hown;obtain⟨ra,rc,T⟩:=hown.form;have V:((t0.take k).map (·.1)).length=k:=by simp;omega
  rw[V] at T;have HL:=Kz V;have y0:=bq _ hg;have fe:=blk y0;subst T;clear hg hown V
  by_cases D:k<t0.length
  ·have X:Gr w W1:=gB.trans U.o
   have J:=Kz X;obtain⟨b,off,rfl,fu⟩:=ay k D;obtain⟨q0,q1,q2,q3,q4,q5,gD,gF,gT,gV,K,gX,aj,ik,iw,kr,ku,-,dB,dS,ky,lq,oH,oL,o5,o9,qb⟩:=KZ ai D X;obtain⟨fo,ak,-⟩:=HO.o.slR (by rw[HL.o];unfold bn;omega);have bB:=Kz ak;have bH:=Kz aj;clear X ak aj
   by_cases hid:1≤q0∧q0≤999
   ·have O:=Kz hid
    clear hid;go_wp2_with fail;refine(fJ _ _ _ _ O.o.1 O.o.2).mono ?_;rintro e w' ⟨rfl,x1,rfl⟩;go_wp2_with fail;refine(Bp _ _ ((t0.take k).map (·.1)) q0 _ (bB.o.gr gd)).mono ?_;rintro e w' ⟨rfl,x2,rfl⟩
    by_cases q:((t0.take k).map (·.1)).any (fun z=>q0==z)=true
    ·have HD:=Kz q
     rw[q];clear q;go_wp2_with fail;go_ret;refine⟨aa (Bh fun h=>?_).symm,J.o.trans gd⟩;have h1:=HD.o;rw[show q0=t0[k].1 by rw[←K.o]] at h1;obtain⟨j,hj,bL,e⟩:=(CW D).1 h1;exact(h.2 k D).2 j hj bL e
    ·have au:((t0.take k).map (·.1)).any (fun z=>q0==z)=false:=eq_false_of_ne_true q
     have HD:=Kz q;rw[au];clear q au
     go_wp2_with (first|(at_builtin;refine bP (α:=Int) (w0:=B) (tg U) rfl _ _ 54 rfl 3 i0 (.int .i64 0) 8 Tryz.underlying54 Z.o.1 Z.o.2.1 Z.o.2.2.1 Z.o.2.2.2 rfl _ fps _ (by rfl) (HO.o.gr gd) _ [[]] [q0] (by rfl) (eT.one (by simp) (rO bH.o _)) (fun b _=>by simp) (by rw[HL.o];unfold maxLen;simp;omega) (by rw[HL.o];simp;omega) ?_;intro v3 w3 h1 h2 h3 h4;replace h1:=Kz h1;replace h4:=Kz h4;clear h2 h3))
     refine⟨⟨k+1,fps++[[]],by omega,Kz fun i hi q8=>?_,h4.o,Kz (by rw[List.flatten_append,HF.o];rfl),?_,by go_num⟩,by simp[intOf];omega⟩
     ·by_cases aZ:i<k
      ·exact HK.o i hi aZ
      ·obtain rfl:i=k:=by omega
       refine⟨by rw[←K.o];exact O.o,fun j hj bR e=>HD.o ?_⟩;rw[show q0=t0[i].1 by rw[←K.o]];exact(CW D).2 ⟨j,hj,bR,e⟩
     ·have e:(t0.take (k+1)).map (·.1)=(t0.take k).map (·.1)++[q0]:=by
       rw[List.take_succ_eq_append_getElem D,List.map_append,←K.o];rfl
      rw[e];exact h1.o
   ·have O:=Kz hid
    have ax:q0<1∨999<q0:=by omega
    have bX:=Kz ax;clear hid ax;go_wp2_with fail;refine(eu _ _ _ _ bX.o).mono ?_;rintro e w' ⟨rfl,x1,rfl⟩;go_wp2_with fail;go_ret;refine⟨aa (Bh fun h=>O.o ?_).symm,J.o.trans gd⟩;have:=(h.2 k D).1;rw[←K.o] at this;exact this
  ·have cB:k=t0.length:=by omega
   subst cB;have Y:qa t0:=fun i hi=>HK.o i hi hi
   have bg:=Kz Y;have J:=Kz (gB.trans U.o);clear Y
   by_cases hlen:1≤t0.length∧t0.length≤16
   ·have I:=Kz hlen
    clear hlen;go_wp2_with fail;refine(fJ _ _ _ _ (by have:=I.o;omega) (by have:=I.o;omega)).mono ?_;rintro e w' ⟨rfl,x1,rfl⟩;go_wp2_with fail;go_ret;exact⟨aa (Dp ⟨I.o,bg.o⟩).symm,J.o.trans gd⟩
   ·have I:=Kz hlen
    clear hlen;go_wp2_with fail;refine(eu _ _ _ _ (by have:=I.o;omega)).mono ?_;rintro e w' ⟨rfl,x1,rfl⟩;go_wp2_with fail;go_ret;exact⟨aa (Bh fun h=>I.o h.1).symm,J.o.trans gd⟩
theorem lS(g:(af d))(t:fU)(s:ByteArray)(w:World)(hg:Rd.rd fg w cg.toList g)(ht:Rd.rd ft w ct.toList t)(Y:aP g≤1048576)(T:t.length≤1048576):
  Qz 67 #[.agg cg,.agg ct,.string s] w (.bool (kY g t s)):=by
 have Z:=Kz hg;obtain⟨g0,g1,ag0,kg0,ax,ag1,kg1,ay,rfl,rfl,-,aZ,ae,ah,bg,ai,aj⟩:=yt hg;clear hg;have U:=Kz ht;obtain⟨t0,J,K,bq,rfl,rfl,-,bB,ak,au⟩:=K8 ht;clear ht;obtain⟨res,D⟩:=nm (zK (g0,g1) t0 (t0.length+1) 0 (-1) 0 s);have B:=Kz D;have V:=Kz (fun x:Ext=>Dj (g0,g1) t0 Y (t0.length+1) _ _ _ _ 0 (-1) 0 s (((w.alloc (.cells #[.slice ag0 g0.length kg0,.slice ag1 g1.length kg1] 39)).alloc (.cells #[.slice J t0.length K] 43)).ext x) (Rd.gr Z.o gd) (Rd.gr U.o gd) (by omega) (by omega) (by omega));have X:=Kz (fun x:Ext=>Cu t0 (((w.alloc (.cells #[.slice ag0 g0.length kg0,.slice ag1 g1.length kg1] 39)).alloc (.cells #[.slice J t0.length K] 43)).ext x) (Rd.gr U.o gd) T);clear D
 by_cases q:Bt t0=true
 ·have I:=Kz q
  clear q;delta Qz;go_in;go_wp2_with fail;refine wg ?_
  repeat(go_big_quiet_step (first|(go_at_call 94;exact aG (by have:=X.o;rw[I.o] at this;exact this _))|(go_at_call 95;exact aG (V.o _))))
  refine wq fun nx=>?_
  rw[←B.o]
  by_cases hr:res=(t0.length:Int)
  ·have O:=Kz hr
   have ht:(res==(t0.length:Int))=true:=by simpa using hr
   clear hr;go_wp2_with fail;go_ret;exact⟨aa (by rw[ht,xV (Dm.1 I.o).1 (Dm.1 I.o).2 (by rw[←B.o];exact O.o)]),gd⟩
  ·have O:=Kz hr
   have ht:(res==(t0.length:Int))=false:=by simpa using hr
   clear hr;go_wp2_with fail;go_ret;exact⟨aa (by rw[ht,lJ fun h=>O.o (by rw[B.o];exact h.2.2)]),gd⟩
 ·have hb:Bt t0=false:=eq_false_of_ne_true q
  have I:=Kz hb;have HN:=Kz q;clear q hb;delta Qz;go_in;go_wp2_with fail;refine wg ?_
  repeat(go_big_quiet_step (first|(go_at_call 94;exact aG (by have:=X.o;rw[I.o] at this;exact this _))|(go_at_call 95;exact aG (V.o _))))
  refine wq fun nx=>?_
  go_wp2_with fail;go_ret;exact⟨aa (lJ fun h=>HN.o (Dp ⟨h.1,h.2.1⟩)).symm,gd⟩
theorem nG(g:(af d))(t:fU)(w:World)(hg:Rd.rd fg w cg.toList g)(ht:Rd.rd ft w ct.toList t):
  Qz 75 #[.agg cg,.agg ct] w (.bool (fP g t)):=by
 have B:=Kz hg;obtain⟨g0,g1,ag0,kg0,X,ag1,kg1,Y,rfl,rfl,-,Z,I,J,ae,K,O⟩:=yt hg;clear hg;have D:=Kz ht;obtain⟨t0,h,q,ah,rfl,rfl,-,ai,T,U⟩:=K8 ht;clear ht;have H1:=Kz (fun x:Ext=>jM (g0,g1) t0 0 (((w.alloc (.cells #[.slice ag0 g0.length kg0,.slice ag1 g1.length kg1] 39)).alloc (.cells #[.slice h t0.length q] 43)).ext x) (Rd.gr B.o gd) (Rd.gr D.o gd));have V:=Kz (fun x:Ext=>xM (g0,g1) t0 (zB (g0,g1) t0 0) (((w.alloc (.cells #[.slice ag0 g0.length kg0,.slice ag1 g1.length kg1] 39)).alloc (.cells #[.slice h t0.length q] 43)).ext x) (Rd.gr B.o gd) (Rd.gr D.o gd));delta Qz;go_in;go_wp2_with fail;refine wg ?_
 repeat(go_big_quiet_step (first|(go_at_call 87;exact aG (H1.o _))|(go_at_call 105;exact aG (V.o _))))
 refine wq fun nx=>?_
 go_wp2_with fail;go_ret;exact⟨rfl,gd⟩
theorem Tryz.o6:(Tryz.prog.info? 45).map (fun i=>(i.zero,i.size,i.bytes))=some (some (.agg #[.int .i64 0,.string ByteArray.empty]),2,24):=by kernel_rfl
def p8{α:Type}[Rd α](w:World)(xs:List α)(e:Ending)(w':World):Prop:=
 ∃v fq,e=.returned v∧SlR fq w' v xs∧aY w fq∧Gr w w'
theorem xn{ss:List bC}(h:dH ss≤1048576)(n:ByteArray):((bW ss n).getD dE).2.length≤1048576:=by
 unfold bW
 cases q:ss.find? (fun s=>decide (s.1=n)) with
 |none=>simp[dE]
 |some y=>
  have hm:=List.mem_of_find?_eq_some q;obtain⟨i,hi,rfl⟩:=List.mem_iff_getElem.1 hm;have h1:=dI bM ss hi;have B:(ss[i].2).length≤bM ss[i]:=le_trans (bT bI _) (Nat.le_add_left _ _);have D:wtL bM ss≤1048576:=h;rw[Option.getD_some];omega
theorem uU{α β:Type}(f:α→List β)(M:Nat)(l:List α)(h:∀x∈l,(f x).length≤M):(l.flatMap f).length≤l.length*M:=by
 induction l with
 |nil=>simp
 |cons a l q=>
  rw[List.flatMap_cons,List.length_append,List.length_cons,Nat.add_mul];have:=h a (by simp);have:=q (fun x B=>h x (List.mem_cons_of_mem _ B));omega
theorem FP(h:aP g≤1048576)(n:aT):(ll g n).length≤1048576:=by
 unfold ll;rw[List.length_map];have hw:dH g.1+gz g.2≤1048576:=h;exact xn (by omega) _
theorem yZ(h:aP g≤1048576)(ht:fP g t=true)(k:Nat):((t.take k).flatMap (ll g)).length≤16777216:=by
 have h1:=uU (ll g) 1048576 (t.take k) (fun x _=>FP h x)
 have q:(t.take k).length≤16:=by
  have:=(jv.1 ht).1.2;rw[List.length_take];omega
 have:=Nat.mul_le_mul_right 1048576 q;omega
def mK(w W:World)(y:bC)(s:Value)(wr:World):Prop:=
 ∃b v fq,s=.pointer (some ⟨b,0,none⟩)∧Gr W wr∧wr.cell? ⟨b,0,none⟩=some (.string y.1)∧wr.cell? ⟨b,1,none⟩=some v∧SlR fq wr v y.2∧y.1.size≤maxLen∧W.heap.size≤b∧∀c∈fq,c<w.heap.size∨W.heap.size≤c
theorem SlR.vY{α:Type}[Rd α]{w:World}{b off len cap:Nat}{xs:List α}(h:SlR fp w (.slice (some ⟨b,off,none⟩) len cap) xs)(hn:xs≠[]):b∈fp:=by
 obtain⟨a,c,hv,_,_,⟨B,_⟩|⟨I,D,fps,_,rfl,rfl,_⟩⟩:=h
 ·exact absurd B hn
 ·injection hv with q _ _
  injection q with q;injection q with q _ _;subst q;simp
theorem dO{o o':Obj}(h:∀c∈fp,c≠A.heap.size):fB fp ((A.alloc o).ext x) ((A.alloc o').ext x):=fun c hc=>qZ x (h c hc)
theorem dM{o o':Obj}{y:Ext}(h:∀c∈fp,c≠A.heap.size):fB fp (((A.alloc o).ext x).ext y) (((A.alloc o').ext x).ext y):=by
 rw[iV,iV];exact dO h
theorem iR{o o':Obj}{y z:Ext}(h:∀c∈fp,c≠A.heap.size):fB fp ((((A.alloc o).ext x).ext y).ext z) ((((A.alloc o').ext x).ext y).ext z):=by
 rw[iV,iV,iV,iV];exact dO h
theorem Wr.more{q B:Option Nat}{W wr D:World}(h:Wr q.toList W wr)(hv:B=q∨∃n,B=some n∧W.heap.size≤n)(k:Wr B.toList wr D):Wr q.toList W D:=
 ⟨k.os.trans h.os,k.tape.trans h.tape,k.output.trans h.output,le_trans h.size k.size,le_trans h.drawn k.drawn,fun b hb hn=>(k.block b (Nat.lt_of_lt_of_le hb h.size) (by
  rcases hv with rfl|⟨n,rfl,I⟩
  ·exact hn
  ·simp;omega)).trans (h.block b hb hn)⟩
theorem tq{B q h:Option Nat}{W wr:World}(hv:q=B∨∃n,q=some n∧W.heap.size≤n)(k:h=q∨h=some wr.heap.size)(hs:W.heap.size≤wr.heap.size):h=B∨∃n,h=some n∧W.heap.size≤n:=by
 rcases k with rfl|rfl
 ·exact hv
 ·exact .inr ⟨_,rfl,hs⟩
theorem rG{r:aW d}{o:ag}(h:0≤o.1∧o.1≤(r.2.2.1.length:Int)):jf g r o=ek ((bW g.1 (j6 r o.1)).getD dE).2 o.2:=by unfold jf Je;rw[if_pos h]
theorem tV{r:aW d}{o:ag}(h:¬(0≤o.1∧o.1≤(r.2.2.1.length:Int))):jf g r o=none:=by unfold jf;rw[if_neg h]
set_option maxRecDepth 100000 in
theorem mM(g:af d)(r:aW d)(o:ag)(w:World)(hg:Rd.rd fg w cg.toList g)(hr:Rd.rd fr w cr.toList r)(ho:Rd.rd fo w co.toList o):
  Calls Tryz.prog 178 #[.agg cg,.agg cr,.agg co] w (Found [] w (jf g r o) dR):=by
 have HG:=Kz hg;obtain⟨g0,g1,ag0,kg0,uq,ag1,kg1,uz,rfl,rfl,-,u6,ku,lq,ve,oH,oL⟩:=yt hg;clear hg;have HR:=Kz hr;obtain⟨Z,r1,O,r3,r4,r5,ai,aj,vB,ak,au,vD,ax,aZ,vF,rfl,rfl,-,vG,vL,vO,o5,o9,vR,qb,q8,vX,q9,sO⟩:=KV hr;clear hr;obtain⟨q,T,rfl,rfl,-,wF,wL⟩:=KT ho;clear ho
 by_cases J:0≤q∧q≤(O.length:Int)
 ·have hb:(decide (0≤q)&&decide (q≤(O.length:Int)))=true:=by rw[decide_eq_true J.1,decide_eq_true J.2];rfl
  have D:=rG (g:=(g0,g1)) (r:=(Z,r1,O,r3,r4,r5)) (o:=(q,T)) J;obtain⟨S,hS⟩:=nm (j6 (Z,r1,O,r3,r4,r5) q);simp only at D;rw[←hS] at D;obtain⟨Y,hY⟩:=nm ((bW g0 S).getD dE);rw[←hY] at D;have HY:=Kz D;have cB:=Kz hY;have cK:=Kz hS;clear D hY hS J;go_in;go_wp2_with fail;refine(di _ _ _ _).mono ?_;rintro e w' ⟨rfl,rfl⟩;rw[hb];clear hb;go_wp2_with fail;generalize U:((((w.alloc (.cells #[.slice ag0 g0.length kg0,.slice ag1 g1.length kg1] 39)).alloc (.cells #[.string Z,.string r1,.slice ai O.length aj,.bool r3,.slice ak r4.length au,.slice ax r5.length aZ] 128)).alloc (.cells #[.int .i64 q,.string T] 181)).alloc (.cells #[.string ⟨#[]⟩,.int .i64 0,.int .i64 0,.bool false] 144))=B;have gB:Gr w B:=gb U;obtain⟨w9,xc⟩:=kb2 U (w.heap.size) (.slice ag0 g0.length kg0) (.slice ag1 g1.length kg1);obtain⟨x9,yc,yu,y5,y7,y8⟩:=kb6 U (w.heap.size+1) (.string Z) (.string r1) (.slice ai O.length aj) (.bool r3) (.slice ak r4.length au) (.slice ax r5.length aZ);obtain⟨cO,dB⟩:=kb2 U (w.heap.size+1+1) (.int .i64 q) (.string T);obtain⟨bL,bR⟩:=kb2 U (w.heap.size+2) (.int .i64 q) (.string T);have sB:B.heap.size=w.heap.size+4:=szB U;have EB:=Kz U;clear U
  go_cut [8] (fun s8 wr=>mK w B Y s8 wr)
  case first=>
   go_region_held3 (fun w'=>Gr B w') (exact ga)
    (first|(go_at_call 215;refine(jF (Z,r1,O,r3,r4,r5) q _ (Rd.gr HR.o (gB.trans ga))).mono ?_;rintro e w' ⟨rfl,x2,rfl⟩;rw[←cK.o])|(go_at_call 86;refine(dY (g0,g1) S _ (Rd.gr HG.o (gB.trans ga))).mono ?_;rintro e w' ⟨es,fq,rfl,hr,bg,x3,rfl⟩;obtain⟨s0,s1,dS,dV,bq,ae,rfl,fe,fu,V,uf,uo⟩:=Lg (x:=(bW g0 S).getD dE) hr;have gD:=Kz ae;have y9:=Lt ae hr;clear hr ae;obtain⟨bb,I⟩:∃b:Bool,b=(bW g0 S).isSome:=⟨_,rfl⟩;rw[←I];have bB:=Kz I;clear I;have gF:=Kz bg;clear bg))
   all_goals
    go_wp2_with fail;go_meet;have hY:Y=(s0,s1):=cB.o.trans gD.o.symm;subst hY;have X:∀c∈bq,c<w.heap.size∨_≤c:=fun c hc=>(gF.o c (by rw[fe.o];simpa using hc)).imp (Rd.lt HG.o c) id
    refine⟨_,.slice dS s1.length dV,bq,rfl,gd,?_,?_,?_,fu,by first|omega|(simp;done)|(simp;omega),fun c hc=>(X c hc).imp id (fun h=>by simp at h;omega)⟩
    ·exact kd
    ·exact kd
    ·first
      |(refine V.gr ?_;(repeat(first|exact Gr.refl _|apply Gr.ext|apply Gr.alloc|apply Gr.drew));done)
      |((with_reducible refine V.mono (dO ?_));exact fun c hc e=>by subst e;have:=X _ hc;simp at this;omega)
      |((with_reducible refine V.mono (dM ?_));exact fun c hc e=>by subst e;have:=X _ hc;simp at this;omega)
      |((with_reducible refine V.mono (iR ?_));exact fun c hc e=>by subst e;have:=X _ hc;simp at this;omega)
  case rest=>
   obtain⟨b8,v8,fs,rfl,K,d0,d1,sl,gT,-,-⟩:=hcut
   rename World=>W6
   obtain⟨ay,ky,rfl,za,zb,zf⟩:=sl.open;have z0:=blk d0;have gV:=Kz (iQ Y.1 Y.2 gT sl);have bX:=Kz K;have e8:=K.keep (cO _ (Gr.refl _));have e9:=K.keep (dB _ (Gr.refl _));have zg:=K.keep (bL _ (Gr.refl _));have zl:=K.keep (bR _ (Gr.refl _));have ze:=blk e8;clear sl K;go_wp2_with fail;refine(jA Y T _ (Rd.gr gV.o gd)).mono ?_;rintro e w' ⟨es,fq,rfl,hr,-,x3,rfl⟩;obtain⟨t0,t1,t2,t3,ah,rfl,-,gX,ik,iw⟩:=Ld (x:=(ek Y.2 T).getD dR) hr;have kr:=Kz ah;have zn:=Lt ah hr;clear hr ah;obtain⟨bb,I⟩:∃b:Bool,b=(ek Y.2 T).isSome:=⟨_,rfl⟩;rw[←I];have bB:=Kz I;clear I;obtain⟨y,rfl⟩:=bX.o;obtain rfl:=EB.o;go_wp2_with fail
   exact bodyPost_ret (v:=.tuple #[.agg #[.string t0,.int .i64 t1,.int .i64 t2,.bool t3],.bool bb])
    (by simp[results,Tryz.results178,go_sem]) rfl ⟨_,[],by rw[HY.o,←bB.o],by rw[HY.o,←kr.o];exact jk t0 t1 t2 t3 gX ik iw,by simp,gd⟩
 ·have hb:(decide (0≤q)&&decide (q≤(O.length:Int)))=false:=Bool.and_eq_false_iff.2 (by by_cases h:0≤q<;>simp_all<;>omega)
  have bH:=Kz (tV (g:=(g0,g1)) (r:=(Z,r1,O,r3,r4,r5)) (o:=(q,T)) J);clear J;go_in;go_wp2_with fail;refine(di _ _ _ _).mono ?_;rintro e w' ⟨rfl,rfl⟩;rw[hb];clear hb;go_wp2_with fail
  exact bodyPost_ret (v:=.tuple #[.agg #[.string ⟨#[]⟩,.int .i64 0,.int .i64 0,.bool false],.bool false])
   (by simp[results,Tryz.results178,go_sem]) rfl ⟨_,_,by rw[bH.o];rfl,by rw[bH.o];exact oD _,by simp,gd⟩
set_option maxRecDepth 100000 in
theorem xK(g:af d)(r:aW d)(o:ag)(w:World)(hg:Rd.rd fg w cg.toList g)(hr:Rd.rd fr w cr.toList r)(B:Rd.rd fo w co.toList o):
  Qz 228 #[.agg cg,.agg cr,.agg co] w (.bool (pB (qp g r o))):=by
 rw[←BI];have HG:=Kz hg;obtain⟨g0,g1,ag0,kg0,bH,ag1,kg1,bL,rfl,rfl,-,bR,ai,aj,bX,ak,au⟩:=yt hg;clear hg;have HR:=Kz hr;obtain⟨K,O,T,U,V,X,cB,cK,cO,dB,dS,dV,fe,fu,gB,rfl,rfl,-,gD,gF,gT,ax,ay,gV,aZ,bg,gX,bq,bB⟩:=KV hr;clear hr;have HO:=Kz B;obtain⟨D,Y,rfl,rfl,-,ik,iw⟩:=KT B;clear B;obtain⟨A,I⟩:=nm (jf (g0,g1) (K,O,T,U,V,X) (D,Y));rw[←I];obtain⟨R,J⟩:=nm (Fx A D);simp only;rw[←J];have HA:=Kz I;have Z:=Kz J;clear I J;delta Qz;go_in;go_wp2_with fail;refine(mM (g0,g1) (K,O,T,U,V,X) (D,Y) _ (Rd.gr HG.o gd) (Rd.gr HR.o gd) (Rd.gr HO.o gd)).mono ?_;rintro e w' ⟨es,fq,rfl,hr,-,x3,rfl⟩;rw[←HA.o] at hr ⊢;obtain⟨t0,t1,t2,t3,h,rfl,-,kr,ku,ky⟩:=Ld (x:=A.getD dR) hr;have ae:=Kz h;have lq:=Lt h hr;clear hr h;obtain⟨bb,q⟩:∃b:Bool,b=A.isSome:=⟨_,rfl⟩;rw[←q];have ah:=Kz q;clear q;go_wp2_with fail
 go_ways
 all_goals
  go_ret;refine⟨aa ?_,gd⟩;rw[Z.o];unfold Fx;rw[←ah.o,←ae.o]
  first|(simp_all;done)
set_option maxRecDepth 100000 in
theorem xP(g:af d)(r:aW d)(o:ag)(w:World)(hg:Rd.rd fg w cg.toList g)(hr:Rd.rd fr w cr.toList r)(ho:Rd.rd fo w co.toList o)(hl:aP g≤1048576):
  Qz 258 #[.agg cg,.agg cr,.agg co] w (.bool (pB (qp g r o))):=by
 rw[←BI];have cB:=Kz hl;have HG:=Kz hg;obtain⟨g0,g1,ag0,kg0,uq,ag1,kg1,uz,rfl,rfl,-,u6,ku,lq,ve,oH,oL⟩:=yt hg;clear hg;have HR:=Kz hr;obtain⟨O,T,J,U,V,X,ak,au,vB,ax,aZ,vD,bg,bq,vF,rfl,rfl,-,vG,vL,vO,o5,o9,vR,qb,q8,vX,q9,sO⟩:=KV hr;clear hr;obtain⟨q,o1,rfl,rfl,-,wF,wL⟩:=KT ho;clear ho;clear hl;obtain⟨A,hA⟩:=nm (jf (g0,g1) (O,T,J,U,V,X) (q,o1));rw[←hA];obtain⟨R,hR⟩:=nm (Fx A q);simp only;rw[←hR];have bB:=Kz hR;clear hR
 by_cases K:0≤q∧q≤(J.length:Int)
 ·have hb:(decide (0≤q)&&decide (q≤(J.length:Int)))=true:=by rw[decide_eq_true K.1,decide_eq_true K.2];rfl
  have D:=rG (g:=(g0,g1)) (r:=(O,T,J,U,V,X)) (o:=(q,o1)) K;rw[←hA] at D;obtain⟨S,hS⟩:=nm (j6 (O,T,J,U,V,X) q);simp only at D;rw[←hS] at D;obtain⟨Y,hY⟩:=nm ((bW g0 S).getD dE);rw[←hY] at D;have HY:=Kz D;have cK:=Kz hY;have cO:=Kz hS;clear D hY hS K hA;delta Qz;go_in;go_wp2_with fail;refine(fI _ _ _ _).mono ?_;rintro e w' ⟨rfl,rfl⟩;rw[hb];clear hb;go_wp2_with fail;generalize hB:(((w.alloc (.cells #[.slice ag0 g0.length kg0,.slice ag1 g1.length kg1] 39)).alloc (.cells #[.string O,.string T,.slice ak J.length au,.bool U,.slice ax V.length aZ,.slice bg X.length bq] 128)).alloc (.cells #[.int .i64 q,.string o1] 181))=B;have gB:Gr w B:=gb hB;obtain⟨w9,xc⟩:=kb2 hB (w.heap.size) (.slice ag0 g0.length kg0) (.slice ag1 g1.length kg1);obtain⟨x9,yc,yu,y5,y7,y8⟩:=kb6 hB (w.heap.size+1) (.string O) (.string T) (.slice ak J.length au) (.bool U) (.slice ax V.length aZ) (.slice bg X.length bq);obtain⟨dB,dS⟩:=kb2 hB (w.heap.size+1+1) (.int .i64 q) (.string o1);have sB:B.heap.size=w.heap.size+3:=szB hB;clear hB;have dV:=Kz gB
  go_cut [7] (fun s8 wr=>mK w B Y s8 wr)
  case first=>
   go_region_held3 (fun w'=>Gr B w') (exact ga)
    (first|(go_at_call 158;refine(iG (O,T,J,U,V,X) q _ (Rd.gr HR.o (gB.trans ga))).mono ?_;rintro e w' ⟨rfl,x2,rfl⟩;rw[←cO.o])|(go_at_call 85;refine(dX (g0,g1) S _ (Rd.gr HG.o (gB.trans ga)) cB.o).mono ?_;rintro e w' ⟨es,fq,rfl,hr,bH,x3,rfl⟩;obtain⟨s0,s1,fe,fu,bL,ai,rfl,gD,gF,Z,uf,uo⟩:=Lg (x:=(bW g0 S).getD dE) hr;have gT:=Kz ai;have y9:=Lt ai hr;clear hr ai;obtain⟨bb,I⟩:∃b:Bool,b=(bW g0 S).isSome:=⟨_,rfl⟩;rw[←I];have bR:=Kz I;clear I;have gV:=Kz bH;clear bH))
   all_goals
    go_wp2_with fail;go_meet;have hY:Y=(s0,s1):=cK.o.trans gT.o.symm;subst hY;have ae:∀c∈bL,c<w.heap.size∨_≤c:=fun c hc=>(gV.o c (by rw[gD.o];simpa using hc)).imp (Rd.lt HG.o c) id
    refine⟨_,.slice fe s1.length fu,bL,rfl,gd,?_,?_,?_,gF,by first|omega|(simp;done)|(simp;omega),fun c hc=>(ae c hc).imp id (fun h=>by simp at h;omega)⟩
    ·exact kd
    ·exact kd
    ·first
      |(refine Z.gr ?_;(repeat(first|exact Gr.refl _|apply Gr.ext|apply Gr.alloc|apply Gr.drew));done)
      |((with_reducible refine Z.mono (dO ?_));exact fun c hc e=>by subst e;have:=ae _ hc;simp at this;omega)
      |((with_reducible refine Z.mono (dM ?_));exact fun c hc e=>by subst e;have:=ae _ hc;simp at this;omega)
      |((with_reducible refine Z.mono (iR ?_));exact fun c hc e=>by subst e;have:=ae _ hc;simp at this;omega)
  case rest=>
   obtain⟨b8,v8,fs,rfl,ah,d0,d1,sl,gX,-,-⟩:=hcut
   rename World=>W6
   obtain⟨ay,ky,rfl,za,zb,zf⟩:=sl.open;have ik:=Kz (iQ Y.1 Y.2 gX sl);have bX:=Kz ah;have e8:=ah.keep (dB _ (Gr.refl _));have e9:=ah.keep (dS _ (Gr.refl _));have ze:=blk e8;clear sl ah;go_wp2_with fail;refine(jC Y o1 _ (Rd.gr ik.o gd)).mono ?_;rintro e w' ⟨es,fq,rfl,hr,-,x3,rfl⟩;rw[←HY.o] at hr ⊢;obtain⟨t0,t1,t2,t3,aj,rfl,-,zg,zl,zn⟩:=Ld (x:=A.getD dR) hr;have iw:=Kz aj;have zo:=Lt aj hr;clear hr aj;obtain⟨bb,I⟩:∃b:Bool,b=A.isSome:=⟨_,rfl⟩;rw[←I];have bR:=Kz I;clear I;go_wp2_with fail
   go_ways
   all_goals
    go_ret;refine⟨aa ?_,(dV.o.trans bX.o).trans gd⟩;rw[bB.o];unfold Fx;rw[←bR.o,←iw.o]
    first|(simp_all;done)
 ·have hb:(decide (0≤q)&&decide (q≤(J.length:Int)))=false:=Bool.and_eq_false_iff.2 (by by_cases h:0≤q<;>simp_all<;>omega)
  have kr:=Kz (hA.trans (tV (g:=(g0,g1)) (r:=(O,T,J,U,V,X)) (o:=(q,o1)) K));clear K hA;delta Qz;go_in;go_wp2_with fail;refine(fI _ _ _ _).mono ?_;rintro e w' ⟨rfl,rfl⟩;rw[hb];clear hb;go_wp2_with fail;go_ret;exact⟨aa (by rw[bB.o,kr.o];rfl),gd⟩
end Go.Proofs.YtleafadpfeibfaaGreat
