/- Contracts and laws towards ReadsOf, part 22 of 54. No condition. -/
import Derived.IntWalk
import Derived.Test.YtleafadpfeibfaaGreatRx20
import Derived.Test.YtleafadpfeibfaaGreatRx19
set_option maxHeartbeats 32000000
set_option maxRecDepth 10000
set_option linter.unusedVariables false
set_option linter.unusedSimpArgs false
namespace Go.Proofs.YtleafadpfeibfaaGreat
open Go.RowKit
open _root_.List (drop_eq_getElem_cons)
variable{d:Nat}
theorem EX{α:Type}{o:Option α}{y z:α}(h:y=o.getD z)(hb:true=o.isSome):o=some y:=by
 cases o with
 |none=>cases hb
 |some v=>rw[h];rfl
theorem EO{α:Type}{o:Option α}(hb:false=o.isSome):o=none:=by
 cases o with
 |none=>rfl
 |some v=>cases hb
section
variable{g:af d}{t:List aT}{f:Nat}{i parent place:Int}{sym:ByteArray}
theorem xy(h:nth t i=none):zK g t (f+1) i parent place sym= -1:=by rw[zK];simp only[h]
theorem rF{n:aT}(h:nth t i=some n)(hr:dJ g.2 n.2.2.2.2.1=none):zK g t (f+1) i parent place sym= -1:=by rw[zK];simp only[h,hr]
theorem ib{n:aT}{r:aW d}(h:nth t i=some n)(hr:dJ g.2 n.2.2.2.2.1=some r)(hc:¬(r.2.1=sym∧n.2.1=parent∧n.2.2.1=place∧n.2.2.2.2.2.length=r.2.2.1.length∧nL n.2.2.2.1 r.2.2.2.1=true)):zK g t (f+1) i parent place sym= -1:=by
 rw[zK];simp only[h,hr];rw[if_neg hc]
theorem nE{n:aT}{r:aW d}(h:nth t i=some n)(hr:dJ g.2 n.2.2.2.2.1=some r)(hc:r.2.1=sym∧n.2.1=parent∧n.2.2.1=place∧n.2.2.2.2.2.length=r.2.2.1.length∧nL n.2.2.2.1 r.2.2.2.1=true):
  zK g t (f+1) i parent place sym=KD (fun at_ k s=>zK g t f at_ i k s) n.2.2.2.2.2 r.2.2.1 1 (i+1):=by
 rw[zK];simp only[h,hr];rw[if_pos hc]
end
section
variable{wk:Int→Int→ByteArray→Int}{cs:List Int}{ss:List ByteArray}{k:Nat}{a:Int}
theorem pq(h:cs.length≤k):KD wk (cs.drop k) (ss.drop k) (k+1) a=a:=by
 rw[List.drop_eq_nil_of_le h];cases ss.drop k<;>rfl
theorem o8(h:k<cs.length)(q:k<ss.length)(hc:cs[k]≠a):KD wk (cs.drop k) (ss.drop k) (k+1) a= -1:=by
 rw[drop_eq_getElem_cons h,drop_eq_getElem_cons q,KD,if_pos hc]
theorem pz(h:k<cs.length)(q:k<ss.length)(hc:cs[k]=a)(hw:wk a (k+1) ss[k]<0):KD wk (cs.drop k) (ss.drop k) (k+1) a= -1:=by
 rw[drop_eq_getElem_cons h,drop_eq_getElem_cons q,KD,if_neg (by omega),if_pos hw]
theorem rA(h:k<cs.length)(q:k<ss.length)(hc:cs[k]=a)(hw:¬wk a (k+1) ss[k]<0):KD wk (cs.drop k) (ss.drop k) (k+1) a=KD wk (cs.drop (k+1)) (ss.drop (k+1)) (((k+1:Nat):Int)+1) (wk a (k+1) ss[k]):=by
 rw[drop_eq_getElem_cons h,drop_eq_getElem_cons q,KD,if_neg (by omega),if_neg hw];simp
end
theorem rZ(g:af d)(t:List aT):∀(f:Nat) (i parent place:Int) (sym:ByteArray),-1≤zK g t f i parent place sym:=by
 intro f
 induction f with
 |zero=>intro i parent place sym;simp[zK]
 |succ f h=>
  intro i parent place sym
  rw[zK]
  cases hn:nth t i with
  |none=>simp
  |some n=>
   have hi:0≤i:=by
    unfold nth at hn
    split at hn
    ·assumption
    ·cases hn
   cases hr:dJ g.2 n.2.2.2.2.1 with
   |none=>simp[hr]
   |some r=>
    simp only[hr]
    split
    ·exact Ia (w:=fun at_ k s=>zK g t f at_ i k s) (fun a k s=>h a i k s) _ _ _ _ (by omega)
    ·omega
set_option maxRecDepth 100000 in
theorem xm(g:af d)(t:List aT):∀(f:Nat) (fg ft:List Nat) (cg ct:Array Value) (i parent place:Int) (s:ByteArray) (w:World) (hg:Rd.rd fg w cg.toList g) (ht:Rd.rd ft w ct.toList t) (h0:0≤i) (h1:i≤140737488351233) (hf:(t.length:Int)<i+f),
    Qz 140 #[.agg cg,.agg ct,.int .i64 i,.int .i64 parent,.int .i64 place,.string s] w (.int .i64 (zK g t f i parent place s)):=by
  intro f
  induction f with
  |zero=>
    intro fg ft cg ct i parent place s w hg ht h0 h1 hf
    have hz:zK g t 0 i parent place s= -1:=rfl;have HZ:=Kz hz;clear hz;have HG:=Kz hg;obtain⟨g0,g1,ag0,kg0,sO,ag1,kg1,uf,rfl,rfl,zu,bR,ku,ky,bX,lq,oH⟩:=yt hg;have y7:=bR.op3;have y8:=bX.op3;clear hg;have HT:=Kz ht;obtain⟨t0,uo,ai,uq,rfl,rfl,zx,X,oL,o5⟩:=K8 ht;have aj:=X.op3;clear ht;have Y:(t0.length:Int)≤i:=by omega
    delta Qz;go_in;go_wp2_with fail;go_ret;exact⟨aC HZ.o.symm,gd⟩
  |succ f ih=>
    intro fg ft cg ct i parent place s w hg ht h0 h1 hf
    have IH:=Kz ih;clear ih;have HG:=Kz hg;obtain⟨g0,g1,ag0,kg0,sO,ag1,kg1,uf,rfl,rfl,-,bR,ku,ky,bX,lq,oH⟩:=yt hg;clear hg;have HT:=Kz ht;obtain⟨t0,uo,ai,uq,rfl,rfl,-,X,oL,o5⟩:=K8 ht;have aj:=X.op3;clear ht
    by_cases cB:i<(t0.length:Int)
    · obtain⟨n,rfl⟩:∃n:Nat,i=n:=⟨i.toNat,by omega⟩
      have ak:n<t0.length:=by omega
      have hn:=gG (l:=t0) ak;have HN:=Kz hn;clear hn;obtain⟨b,off,rfl,Z⟩:=aj n ak;obtain⟨q0,q1,q2,q3,q4,q5,cK,cO,zy,zH,uz,zL,zO,z8,A7,BM,EB,dB,y9,za,E5,FX,F4,F5,F6,F8,Ha⟩:=KZ X ak (Gr.refl _);have o9:=dB.op3;rw[←uz.o] at HN;have HF:=Kz hf;have He:n+1≤140737488351233:=by omega
      clear hf cB;delta Qz;go_in;go_wp2_with fail;refine(iL (g0,g1) q4 _ (Rd.gr HG.o gd)).mono ?_;rintro e w' ⟨es,fq,rfl,hr,-,x2,rfl⟩;obtain⟨r0,r1,q,K,r4,r5,au,ax,ve,dS,dV,HV,fe,fu,HY,ay,rfl,-,H5,IV,aZ,zb,ze,-,zf,zg,-,zl,zn⟩:=KV (x:=(dJ g1 q4).getD fH) hr;have vB:=Kz ay;have KX:=Lt ay hr;have qb:=aZ.op3;clear hr ay;obtain⟨bb,Z⟩:∃b:Bool,b=(dJ g1 q4).isSome:=⟨_,rfl⟩;rw[←Z];have gD:=Kz Z;clear Z
      cases bb with
      |false=>
        go_wp2_with fail;go_ret;exact⟨aC (rF HN.o (EO gD.o)).symm,gd⟩
      |true=>
        have HR:=Kz (EX vB.o gD.o)
        go_upto_region 5 with fail
        generalize I:(((((w.alloc (.cells #[.slice ag0 g0.length kg0,.slice ag1 g1.length kg1] 39)).alloc (.cells #[.slice (some ⟨b,off,none⟩) t0.length ai] 43)).alloc (.cells #[.int .i64 q0,.int .i64 q1,.int .i64 q2,.int .i64 q3,.string q4,.slice cK q5.length cO] 130)).ext x2).alloc (.cells #[.string r0,.string r1,.slice au q.length ax,.bool K,.slice dS r4.length dV,.slice fe r5.length fu] 128))=B;have gB:Gr w B:=gb I;obtain⟨vD,vF⟩:=kb2 I (w.heap.size) (.slice ag0 g0.length kg0) (.slice ag1 g1.length kg1);have vG:=kb I (w.heap.size+1) 0 (.slice (some ⟨b,off,none⟩) t0.length ai);have vL:=kb I (w.heap.size+1+1) 1 (.int .i64 q1);have vO:=kb I (w.heap.size+1+1) 2 (.int .i64 q2);have vR:=kb I (w.heap.size+1+1) 3 (.int .i64 q3);have vX:=kb I (w.heap.size+1+1) 5 (.slice cK q5.length cO);obtain⟨K3,q8,bg,q9,zo,zq⟩:=kb6 I (w.heap.size+1+1+1+x2.objs.size) (.string r0) (.string r1) (.slice au q.length ax) (.bool K) (.slice dS r4.length dV) (.slice fe r5.length fu);have wF:SlR ve B (.slice au q.length ax) q:=by rw[←I];exact aZ.gr gd
        clear I;have u4:=vL B (Gr.refl _);have v4:=blk u4;have u5:=vO B (Gr.refl _);have v5:=blk u5;have u6:=vR B (Gr.refl _);have v6:=blk u6;have u8:=vX B (Gr.refl _);have v8:=blk u8;have wL:=q8 B (Gr.refl _);have v10:=blk wL;have w9:=bg B (Gr.refl _);have v11:=blk w9;have xc:=q9 B (Gr.refl _);have v12:=blk xc
        go_cut [80] (fun x9 wr=>∃b,x9=.bool b∧(b=false↔(r1=s∧q1=parent∧q2=place∧q5.length=q.length∧nL q3 K=true))∧B=wr)
        case first=>
          go_wp2_with fail
          · rename_i e1 e2 e3 e4 K0 K4
            obtain rfl:=str_inj e1;obtain rfl:=e2;obtain rfl:=e3;have J:Ky (q5.length=q.length):=Kz (by omega);clear e4;refine(di _ _ _ _).mono ?_;rintro e w' ⟨rfl,rfl⟩
            have bL:(decide (-1000000≤q3)&&decide (q3≤1000000))=false∨(decide (-1000000≤q3)&&decide (q3≤1000000))=true∧(K=true∨(K=false∧q3≠0)∨(K=false∧q3=0)):=by
              cases K<;>by_cases hq:q3=0<;>cases (decide (-1000000≤q3)&&decide (q3≤1000000))<;>simp[hq]
            rcases bL with hA|⟨hA,rfl|⟨rfl,hq⟩|⟨rfl,rfl⟩⟩<;>
              (have HA:=Kz hA
               go_wp2_with fail;go_meet;refine⟨_,rfl,?_,rfl⟩;have:=HA.o;have h4:=J.o;unfold nL
               first|(simp_all;done)|(simp at this ⊢<;>omega))
          all_goals
            go_meet;refine⟨_,rfl,⟨nofun,fun h=>?_⟩,rfl⟩
            first
              |(have:=h.2.2.2.1;omega)
              |(have:=h.2.2.1;contradiction)
              |(have:=h.2.1;contradiction)
              |(have:=h.1;simp_all;done)
        case rest=>
          obtain⟨b,rfl,hL,rfl⟩:=hcut;have HL:=Kz hL;clear hL
          cases b with
          |true=>
            go_wp2_with fail;go_ret;exact⟨aC (ib HN.o HR.o fun h=>Bool.noConfusion (HL.o.2 h)).symm,gB.trans gd⟩
          |false=>
            obtain⟨rfl,rfl,rfl,hlen,hl⟩:=HL.o.1 rfl;have J:=Kz hlen;replace HL:=Kz hl;clear hlen hl;obtain⟨gF,U⟩:=nm (zK (g0,g1) t0 (f+1) (n:Int) q1 q2 r1);have V:=Kz U
            have hz:KD (fun at_ k s=>zK (g0,g1) t0 f at_ (n:Int) k s) q5 q 1 ((n:Int)+1)=gF:=by
              rw[U];exact(nE (r:=(r0,r1,q,K,r4,r5)) HN.o HR.o ⟨rfl,rfl,rfl,J.o,HL.o⟩).symm
            have HZ:=Kz hz;clear hz U;have iw:=zI1 n (by omega);go_wp2_with fail;clear aZ
            go_loopw [86,16,17,18] (fun bB yc K6 La wr=>∃(k:Nat) (a:Int),k≤q5.length∧Ky (KD (fun at_ k s=>zK (g0,g1) t0 f at_ (n:Int) k s) (q5.drop k) (q.drop k) (k+1) a=gF)∧(n:Int)+1≤a∧a≤(t0.length:Int)∧Gr B wr∧bB=.int .i64 k∧yc=.int .i64 a) (fun bB _ _ _ _=>q5.length - (intOf bB).toNat)
            case atStart=>exact⟨0,(n:Int)+1,by omega,Kz (by simpa using HZ.o),by omega,by omega,Gr.refl _,rfl,rfl⟩
            case round=>
              obtain⟨k,a,hk,HK,gT,gV,hg,rfl,rfl⟩:=hrel
              rename World=>W1
              have ae:=Kz hg;have y0:=vD _ hg;have y1:=vF _ hg;have y2:=vG _ hg;have y5:=bg _ hg;have Li:=blk y0;have Lj:=blk y2;have Lm:=blk y5;clear hg
              by_cases O:k<q5.length
              · have D:k<q.length:=by have:=J.o;omega
                have gX:Gr w W1:=gB.trans ae.o;have T:=Kz gX;obtain⟨bq,Ls,rfl,Lv⟩:=o9 k O;obtain⟨br,Lx,rfl,LA⟩:=qb k D;have c1:=T.o.keep (dB.fQ O).1;have c2:=ae.o.keep (wF.jl D).1;have LB:=blk c2;clear gX
                by_cases kr:q5[k]=a
                · obtain rfl:=kr
                  obtain⟨res,hr⟩:=nm (zK (g0,g1) t0 f q5[k] (n:Int) ((k:Int)+1) q[k]);have ah:=Kz hr
                  have Y:-1≤res∧(0≤res→q5[k]<res∧res≤(t0.length:Int)):=by
                    rw[hr];exact⟨rZ _ _ _ _ _ _ _,rX _ _ _ _ _ _ _⟩
                  have ik:=zI1 k (by omega);have i2:(0:Int)≤(k:Int):=by omega
                  have i3:(k:Int)<(q.length:Int):=by omega
                  have i4:(k:Int)<(q5.length:Int):=by omega
                  have HB:=Kz (And.intro gT (And.intro gV Y));have HC:=Kz (fun x:Ext=>IH.o _ _ _ _ q5[k] (n:Int) ((k:Int)+1) q[k] (W1.ext x) (Rd.gr HG.o (tg T)) (Rd.gr HT.o (tg T)) (by omega) (by omega) (by have:=HF.o;omega));clear hr gT gV Y;go_wp2_with fail;refine wg ?_
                  repeat(go_big_quiet_step ((go_at_call 140;exact aG (HC.o _))))
                  refine wq fun nx=>?_
                  rw[←ah.o];clear ik
                  by_cases bH:res<0
                  · go_wp2_with fail
                    go_ret;have:=HB.o;exact⟨aC (by rw[←V.o,←HK.o,pz O D rfl (by rw[←ah.o];exact bH)]),T.o.trans gd⟩
                  · go_wp2_with fail
                    refine⟨⟨k+1,res,by omega,Kz ?_,by have:=HB.o;omega,by have:=HB.o;omega,ae.o.trans gd,by go_num,rfl⟩,by simp[intOf];omega⟩;rw[←HK.o,rA O D rfl (by rw[←ah.o];exact bH),←ah.o]
                · have yu:=Kz kr
                  have i4:(k:Int)<(q5.length:Int):=by omega
                  go_wp2_with fail;go_ret;exact⟨aC (by rw[←V.o,←HK.o,o8 O D yu.o]),T.o.trans gd⟩
              · go_wp2_with fail
                go_ret;exact⟨aC (by rw[←V.o,←HK.o,pq (by omega)]),(gB.trans ae.o).trans gd⟩
    · have hn:nth t0 i=none:=jY (by omega)
      have HN:=Kz hn;have Y:(t0.length:Int)≤i:=by omega
      clear hn cB;delta Qz;go_in;go_wp2_with fail;go_ret;exact⟨aC (xy HN.o).symm,gd⟩
theorem zi(x lo hi:Int)(w:World)(h:lo≤x)(q:x≤hi):
  Calls Tryz.prog 137 #[.int .i64 x,.int .i64 lo,.int .i64 hi] w fun e w'=>e=.returned (.bool true)∧w=w':=
 (di x lo hi w).mono fun e w' ⟨he,hw⟩=>⟨by rw[he,decide_eq_true h,decide_eq_true q];rfl,hw⟩
theorem xu(x lo hi:Int)(w:World)(h:x<lo∨hi<x):
  Calls Tryz.prog 137 #[.int .i64 x,.int .i64 lo,.int .i64 hi] w fun e w'=>e=.returned (.bool false)∧w=w':=
 (di x lo hi w).mono fun e w' ⟨he,hw⟩=>⟨by rw[he,Bool.and_eq_false_iff.2 (h.imp (fun h=>decide_eq_false (by omega)) (fun h=>decide_eq_false (by omega)))],hw⟩
theorem Bo{fp:List Nat}{cs:Array Value}(x:aT)(id:Int)(b:Nat)(w:World)(h:Rd.rd fp w cs.toList x)(hc:w.cell? ⟨b,0,none⟩=some (.int .i64 id)):
  Qz 139 #[.agg cs,.pointer (some ⟨b,0,none⟩)] w (.bool (decide (x.1=id))):=by
 have hb:=blk hc;obtain⟨q0,q1,q2,q3,q4,q5,a5,q,f5,rfl,rfl,-,-,-,-,-,-,-,-,-⟩:=Lr h;clear h;delta Qz;go_in;go_wp2_with fail;go_ret;exact⟨aa (by simp[BEq.beq]),gd⟩
theorem E9{t:List aT}{k:Nat}(h:k<t.length):(t.take k).any (fun n=>decide (n.1=t[k].1))=true↔∃j,∃q:j<t.length,j<k∧t[j].1=t[k].1:=by
 rw[List.any_eq_true];constructor
 ·rintro⟨z,hz,B⟩
  obtain⟨j,q,rfl⟩:=List.mem_iff_getElem.1 hz;have D:j<k:=by simp at q;omega
  simp only[List.getElem_take,decide_eq_true_eq] at B;exact⟨j,by omega,D,B⟩
 ·rintro⟨j,q,I,e⟩
  refine⟨t[j],?_,by simpa using e⟩;rw[List.mem_iff_getElem];exact⟨j,by simp;omega,by simp⟩
set_option maxRecDepth 100000 in
theorem xM{fg:List Nat}{cg:Array Value}(g:(af d)){ft:List Nat}{ct:Array Value}(t:fU)(s:ByteArray)(w:World)(hg:Rd.rd fg w cg.toList g)(ht:Rd.rd ft w ct.toList t):
  Qz 105 #[.agg cg,.agg ct,.string s] w (.bool (kY g t s)):=by
 have HG:=Kz hg;obtain⟨g0,g1,ag0,kg0,gX,ag1,kg1,ik,rfl,rfl,-,iw,dS,dV,kr,fe,fu⟩:=yt hg;clear hg;have HT:=Kz ht;obtain⟨t0,ak,Y,ku,rfl,rfl,-,Z,gD,gF⟩:=K8 ht;have ax:=Z.op3;clear ht
 by_cases hlen:1≤t0.length∧t0.length≤16
 ·have K:=Kz hlen
  clear hlen;delta Qz;go_in;go_wp2_with fail;refine(zi _ _ _ _ (by have:=K.o;omega) (by have:=K.o;omega)).mono ?_;rintro e w' ⟨rfl,rfl⟩;go_wp2_with fail;generalize hB:((w.alloc (.cells #[.slice ag0 g0.length kg0,.slice ag1 g1.length kg1] 39)).alloc (.cells #[.slice ak t0.length Y] 43))=B;have gB:Gr w B:=gb hB;obtain⟨bg,bq⟩:=kb2 hB (w.heap.size) (.slice ag0 g0.length kg0) (.slice ag1 g1.length kg1);have bB:=kb hB (w.heap.size+1) 0 (.slice ak t0.length Y);clear hB
  go_loopw [17,7,8] (fun ae s7 s8 wr=>∃k:Nat,k≤t0.length∧Ky (∀i (h:i<t0.length),i<k→(1≤t0[i].1∧t0[i].1≤999)∧∀j (hj:j<t0.length),j<i→t0[j].1≠t0[i].1)∧Gr B wr∧ae=.int .i64 k) (fun ae _ _ _=>t0.length - (intOf ae).toNat)
  case atStart=>exact⟨0,by omega,Kz (by omega),Gr.refl _,rfl⟩
  case round=>
   obtain⟨k,hk,HK,hg,rfl⟩:=hrel
   rename World=>X
   have ah:=Kz hg;have y0:=bg _ hg;have y1:=bq _ hg;have y2:=bB _ hg;have ky:=blk y0;have lq:=blk y2;clear hg
   by_cases D:k<t0.length
   ·have q:Gr w X:=gB.trans ah.o
    have I:=Kz q;obtain⟨fq,au⟩:=Z.J4 (k:=k) (by omega);have bH:=Kz au;clear au;obtain⟨b,off,rfl,oH⟩:=ax k D;obtain⟨q0,q1,q2,q3,q4,q5,bL,bR,oL,o5,V,o9,qb,q8,q9,sO,uf,-,gT,gV,uo,uq,uz,u6,ve,vB,vD⟩:=KZ Z D q;clear q;have j0:(0:Int)≤(k:Int):=by omega
    have j1:(k:Int)≤(Y:Int):=by omega
    have j2:(k:Int)<(t0.length:Int):=by omega
    by_cases hid:1≤q0∧q0≤999
    ·have O:=Kz hid
     have hT:TestNode (X.alloc (.cells #[.int .i64 q0,.int .i64 q1,.int .i64 q2,.int .i64 q3,.string q4,.slice bL q5.length bR] 130)) 139 #[.pointer (some ⟨X.heap.size,0,none⟩)] (fun n=>decide (n.1=q0)) (t0.take k):=
      ⟨Tryz.call139,fun y _ x fp cs hy=>Bo y q0 X.heap.size _ hy (Gr.keep (Gr.ext (Gr.refl _) x) (aJ rfl rfl))⟩
     have bX:=Kz hT;clear hT hid;go_wp2_with fail;refine(zi _ _ _ _ O.o.1 O.o.2).mono ?_;rintro e w' ⟨rfl,rfl⟩;go_wp2_with fail;refine(om _ _ (t0.take k) _ _ _ _ (bH.o.gr (tg I)) bX.o).mono ?_;rintro e w' ⟨rfl,x1,rfl⟩
     by_cases J:(t0.take k).any (fun n=>decide (n.1=q0))=true
     ·have HD:=Kz J
      go_wp2_with fail;go_ret;refine⟨aa (lJ fun h=>?_).symm,I.o.trans gd⟩;have h1:=HD.o;rw[show q0=t0[k].1 by rw[←V.o]] at h1;obtain⟨j,hj,cB,e⟩:=(E9 D).1 h1;exact(h.2.1 k D).2 j hj cB e
     ·have vF:(t0.take k).any (fun n=>decide (n.1=q0))=false:=eq_false_of_ne_true J
      have HD:=Kz J;clear J;go_wp2_with fail;refine⟨⟨k+1,by omega,Kz fun i hi vG=>?_,ah.o.trans gd,by go_num⟩,by simp[intOf];omega⟩
      by_cases ay:i<k
      ·exact HK.o i hi ay
      ·obtain rfl:i=k:=by omega
       refine⟨by rw[←V.o];exact O.o,fun j hj cK e=>HD.o ?_⟩;rw[show q0=t0[i].1 by rw[←V.o]];exact(E9 D).2 ⟨j,hj,cK,e⟩
    ·have O:=Kz hid
     have T:q0<1∨999<q0:=by omega
     have cO:=Kz T;clear hid T;go_wp2_with fail;refine(xu _ _ _ _ cO.o).mono ?_;rintro e w' ⟨rfl,rfl⟩;go_wp2_with fail;go_ret;refine⟨aa (lJ fun h=>O.o ?_).symm,I.o.trans gd⟩;have:=(h.2.1 k D).1;rw[←V.o] at this;exact this
   ·have dB:k=t0.length:=by omega
    subst dB;have ai:qa t0:=fun i hi=>HK.o i hi hi
    have aZ:=Kz ai;obtain⟨res,aj⟩:=nm (zK (g0,g1) t0 (t0.length+1) 0 (-1) 0 s);have U:=Kz aj;have q:Gr w X:=gB.trans ah.o;have HC:=Kz (fun x:Ext=>xm (g0,g1) t0 (t0.length+1) _ _ _ _ 0 (-1) 0 s (X.ext x) (Rd.gr HG.o (q.trans gd)) (Rd.gr HT.o (q.trans gd)) (by omega) (by omega) (by omega));have I:=Kz q;clear ai aj q;go_wp2_with fail;refine wg ?_
    repeat(go_big_quiet_step ((go_at_call 140;exact aG (HC.o _))))
    refine wq fun nx=>?_
    rw[←U.o]
    by_cases hr:res=(t0.length:Int)
    ·have HR:=Kz hr
     have ht:(res==(t0.length:Int))=true:=by simpa using hr
     clear hr;go_wp2_with fail;go_ret;exact⟨aa (by rw[ht,xV K.o aZ.o (by rw[←U.o];exact HR.o)]),I.o.trans gd⟩
    ·have HR:=Kz hr
     have ht:(res==(t0.length:Int))=false:=by simpa using hr
     clear hr;go_wp2_with fail;go_ret;exact⟨aa (by rw[ht,lJ fun h=>HR.o (by rw[U.o];exact h.2.2)]),I.o.trans gd⟩
 ·have K:=Kz hlen
  have T:(t0.length:Int)<1∨16<(t0.length:Int):=by omega
  have HO:=Kz T;clear hlen T;delta Qz;go_in;go_wp2_with fail;refine(xu _ _ _ _ HO.o).mono ?_;rintro e w' ⟨rfl,rfl⟩;go_wp2_with fail;go_ret;exact⟨aa (lJ fun h=>K.o h.1).symm,gd⟩
theorem iG{fr:List Nat}{cr:Array Value}(r:aW d)(p:Int)(w:World)(hr:Rd.rd fr w cr.toList r):Qz 158 #[.agg cr,.int .i64 p] w (.string (j6 r p)):=by
 obtain⟨U,V,q,X,Y,Z,ax,ay,aZ,bg,bq,bB,bH,bL,bR,rfl,rfl,-,bX,cB,K,ae,ah,cK,ai,aj,cO,ak,au⟩:=KV hr;have T:=K.op3;clear hr
 by_cases B:p=0
 ·subst B
  delta Qz;go_in;go_wp2_with fail;go_ret;exact⟨by unfold j6;rfl,gd⟩
 ·have n0:(p==0)=false:=by simpa using B
  by_cases h:1≤p∧p≤(q.length:Int)
  ·obtain⟨n,hn⟩:∃n:Nat,p - 1=n:=⟨(p - 1).toNat,by omega⟩
   have D:n<q.length:=by omega
   have I:=Kz (show j6 (U,V,q,X,Y,Z) p=q[n] by
    unfold j6;rw[if_neg B,if_pos h,hn,gG D];rfl)
   obtain⟨b,off,rfl,hb⟩:=T n D;have c1:=(K.jl D).1;have i0:(0:Int)≤(n:Int):=by omega
   have i1:(n:Int)<(q.length:Int):=by omega
   have iw:IntKind.i64.wrap (p - 1)=(n:Int):=by rw[IntWalk.i64_in _ (by omega)];exact hn
   have J:=Kz h;clear h hn B;delta Qz;go_in;go_wp2_with fail;refine(fJ _ _ _ _ J.o.1 J.o.2).mono ?_;rintro e w' ⟨rfl,x1,rfl⟩;go_wp2_with fail;go_ret;exact⟨by rw[I.o];rfl,gd⟩
  ·have O:p<1∨(q.length:Int)<p:=by omega
   have J:=Kz O
   have I:=Kz (show j6 (U,V,q,X,Y,Z) p=ByteArray.empty by
    unfold j6;rw[if_neg B,if_neg h])
   clear h O B;delta Qz;go_in;go_wp2_with fail;refine(eu _ _ _ _ J.o).mono ?_;rintro e w' ⟨rfl,x1,rfl⟩;go_wp2_with fail;go_ret;exact⟨by rw[I.o];rfl,gd⟩
theorem jF{fr:List Nat}{cr:Array Value}(r:aW d)(p:Int)(w:World)(hr:Rd.rd fr w cr.toList r):Qz 215 #[.agg cr,.int .i64 p] w (.string (j6 r p)):=by
 obtain⟨U,V,q,X,Y,Z,ax,ay,aZ,bg,bq,bB,bH,bL,bR,rfl,rfl,-,bX,cB,K,ae,ah,cK,ai,aj,cO,ak,au⟩:=KV hr;have T:=K.op3;clear hr
 by_cases B:p=0
 ·subst B
  delta Qz;go_in;go_wp2_with fail;go_ret;exact⟨by unfold j6;rfl,gd⟩
 ·have n0:(p==0)=false:=by simpa using B
  by_cases h:1≤p∧p≤(q.length:Int)
  ·obtain⟨n,hn⟩:∃n:Nat,p - 1=n:=⟨(p - 1).toNat,by omega⟩
   have D:n<q.length:=by omega
   have I:=Kz (show j6 (U,V,q,X,Y,Z) p=q[n] by
    unfold j6;rw[if_neg B,if_pos h,hn,gG D];rfl)
   obtain⟨b,off,rfl,hb⟩:=T n D;have c1:=(K.jl D).1;have i0:(0:Int)≤(n:Int):=by omega
   have i1:(n:Int)<(q.length:Int):=by omega
   have iw:IntKind.i64.wrap (p - 1)=(n:Int):=by rw[IntWalk.i64_in _ (by omega)];exact hn
   have J:=Kz h;clear h hn B;delta Qz;go_in;go_wp2_with fail;refine(kC _ _ _ _ J.o.1 J.o.2).mono ?_;rintro e w' ⟨rfl,x1,rfl⟩;go_wp2_with fail;go_ret;exact⟨by rw[I.o];rfl,gd⟩
  ·have O:p<1∨(q.length:Int)<p:=by omega
   have J:=Kz O
   have I:=Kz (show j6 (U,V,q,X,Y,Z) p=ByteArray.empty by
    unfold j6;rw[if_neg B,if_neg h])
   clear h O B;delta Qz;go_in;go_wp2_with fail;refine(mX _ _ _ _ J.o).mono ?_;rintro e w' ⟨rfl,x1,rfl⟩;go_wp2_with fail;go_ret;exact⟨by rw[I.o];rfl,gd⟩
def Fx(o:Option aQ)(p:Int):Bool:=o.isSome&&(((o.getD dR).2.2.1)==(if p=0 then 1 else 2))
theorem BI(g:af d)(r:aW d)(o:ag):Fx (jf g r o) o.1=pB (qp g r o):=by
 rw[Bool.eq_iff_iff,dx];unfold Fx qp
 cases h:jf g r o with
 |none=>simp
 |some a=>simp
def atS(ss:List bC)(n:ByteArray):Int:=idxOf (fun s=>decide (s.1=n)) ss
theorem sQ{fg:List Nat}{cg:Array Value}(g:af d)(n:ByteArray)(w:World)(hg:Rd.rd fg w cg.toList g):
  Qz 200 #[.agg cg,.string n] w (.int .i64 (atS g.1 n)):=by
 obtain⟨g0,g1,ag0,kg0,bg,ag1,kg1,bq,rfl,rfl,-,K,aj,ak,D,au,ax⟩:=yt hg;have V:=K.op3;clear hg;delta Qz;go_in;go_wp2_with fail;generalize X:(w.alloc (.cells #[.slice ag0 g0.length kg0,.slice ag1 g1.length kg1] 39))=B;have gB:Gr w B:=gb X;have ah:=kb X (w.heap.size) 0 (.slice ag0 g0.length kg0);clear X
 go_loopw [5] (fun Y wr=>∃k:Nat,k≤g0.length∧Ky (∀j (h:j<g0.length),j<k→decide (g0[j].1=n)=false)∧Gr B wr∧Y=.int .i64 k) (fun Y _=>g0.length - (intOf Y).toNat)
 case atStart=>exact⟨0,by omega,Kz (fun j h J=>by omega),Gr.refl _,rfl⟩
 case round=>
  obtain⟨k,hk,Z,D,rfl⟩:=hrel
  rename World=>W1
  have y0:=ah _ D;have O:=gB.trans D;have T:=Kz O;have ai:=Kz D;clear D
  by_cases I:k<g0.length
  ·skip
   obtain⟨b,off,rfl,bB⟩:=V k I;obtain⟨q0,q1,bH,bL,bR,bX,U,cB,cK,cO,ay,aZ,dB,dS,dV⟩:=K9 K I O;have k0:(0:Int)≤(k:Int):=by omega
   have k1:(k:Int)<(g0.length:Int):=by omega
   have iw:=zI1 k (by omega)
   by_cases q:q0=n
   ·have HE:=Kz (show atS g0 n=k from iH I (decide_eq_true (by rw[←U.o];exact q)) Z.o)
    subst q;go_wp2_with fail;go_ret;exact⟨aC HE.o.symm,T.o⟩
   ·have E:=Kz q
    have e:(q0.toList==n.toList)=false:=by simpa using fun e=>q (str_inj e)
    clear q;go_wp2_with fail;refine⟨⟨k+1,by omega,Kz fun j J fe=>?_,ai.o,by go_num⟩,by simp[intOf];omega⟩
    by_cases ae:j<k
    ·exact Z.o j J ae
    ·obtain rfl:j=k:=by omega
     rw[←U.o];exact decide_eq_false E.o
  ·have HE:=Kz (show atS g0 n= -1 from gu (fun j J=>Z.o j J (by omega)))
   go_wp2_with fail;go_ret;exact⟨aC HE.o.symm,T.o⟩
end Go.Proofs.YtleafadpfeibfaaGreat
