/- Contracts and laws towards ReadsOf, part 43 of 54. No condition. -/
import Derived.Test.YtdhighcpmcdmmaaGreatFx42
import Derived.Test.YtdhighcpmcdmmaaGreatFx41
set_option maxHeartbeats 32000000
set_option maxRecDepth 10000
set_option linter.unusedVariables false
set_option linter.unusedSimpArgs false
namespace Go.Proofs.YtdhighcpmcdmmaaGreat
open Go.RowKit
open _root_.List (getElem_mem take_length)
open _root_.Nat (add_assoc le_refl)
theorem CV(o a b:Int)(w:World):Qz 195 #[.int .i64 o,.int .i64 a,.int .i64 b] w (.int .i64 (opV o a b)):=by
 obtain⟨x,h⟩:=nm (mY a (opT o).1);obtain⟨y,q⟩:=nm (mY b (opT o).2.1);have s:=Kz h;have B:=Kz q;clear h q;delta Qz;go_in;go_wp2_with fail;refine(uK _ _).mono ?_;rintro e w' ⟨rfl,D,rfl⟩;go_wp2_with fail;refine(lW _ _ _).mono ?_;rintro e w' ⟨rfl,E,rfl⟩;rw[←s.o];go_wp2_with fail;refine(lW _ _ _).mono ?_;rintro e w' ⟨rfl,H,rfl⟩;rw[←B.o]
 go_wp2_with (first|(go_at_call 238;refine(ou _ _).mono ?_;rintro e w' ⟨rfl,rfl⟩)|(go_at_call 235;refine(mV _ _ _).mono ?_;rintro e w' ⟨rfl,rfl⟩)|(go_at_call 239;refine(tO _ _ _).mono ?_;rintro e w' ⟨rfl,rfl⟩)|(go_at_call 240;refine(qm _ _).mono ?_;rintro e w' ⟨rfl,rfl⟩)|(go_at_call 86;refine(fI _ _ _ _).mono ?_;rintro e w' ⟨rfl,rfl⟩))
 go_ways
 all_goals
  go_ret;refine⟨aC ?_,gd⟩;rw[show opV o a b=opW o x y by unfold opV;rw[s.o,B.o]];unfold opW;simp only[beq_iff_eq,beq_eq_false_iff_ne] at*
  first|(simp_all;done)|(simp_all;omega)|(have hm:max y 0=y:=(by omega);simp only[hm] at*;simp_all;done)
theorem mI{α:Type}{xs:List α}{k:Nat}(h:k<xs.length)(o:α):o∈xs.take (k+1)↔o∈xs.take k∨o=xs[k]:=by
 rw[List.take_succ_eq_append_getElem h,List.mem_append,List.mem_singleton]
theorem dK{α:Type}{xs:List α}{k j:Nat}(h:k<xs.length)(q:k<j):xs[k]∈xs.take j:=by
 rw[List.mem_take_iff_getElem];exact⟨k,by omega,rfl⟩
theorem xH{fp:List Nat}{u:Value}(xs:List ag)(w:World)(hu:SlR fp w u xs)(bL:fp.Nodup)(hlen:xs.length≤1048576):
  Calls Tryz.prog 221 #[u] w fun e w'=>∃v fq s,e=.returned v∧SlR fq w' v s∧(∀o:ag,o∈s↔o∈xs)∧s.length≤xs.length∧Wr fp w w':=by
 have HU:=Kz hu;have gM:=Kz bL;obtain⟨a,ca,rfl,h1,O,h3⟩:=hu.open;clear hu bL
 by_cases kz:xs.length<2
 ·have gT:(xs.length:Int)<2:=by omega
  go_in;go_wp2_with fail;go_ret;exact⟨_,fp,xs,rfl,HU.o.gr gd,fun o=>Iff.rfl,le_refl _,(gd:Gr w w).eF fp⟩
 ·have gT:¬(xs.length:Int)<2:=by omega
  obtain⟨b,off,rfl,hb⟩:=h3 0 (by omega);have bN:fp=[b]:=HU.o.Jb (by omega);have ax:=Kz bN;clear h3 bN;go_in;go_wp2_with fail
  go_loopw [3] (fun s3 wr=>∃k:Nat,1≤k∧k≤xs.length∧Ky (Gr w wr)∧s3=.int .i64 k) (fun s3 _=>xs.length - (intOf s3).toNat)
  case atStart=>exact⟨1,by omega,by omega,Kz (Gr.refl _),rfl⟩
  case round=>
   obtain⟨k,kE,hk,HG,rfl⟩:=hrel
   rename World=>W1
   by_cases bV:k<xs.length
   ·obtain⟨m,hm⟩:∃m,m+1=k:=⟨k - 1,by omega⟩
    have HM:=Kz hm;have cK:m<xs.length:=by omega
    have HS:=HU.o.gr HG.o;obtain⟨Y,E⟩:=nm (xs[k]);have H:=HS.iX bV;rw[←E] at H;have au:=Kz E;obtain⟨p0,p1⟩:=Y;obtain⟨cO,dz,dA,dC⟩:=H;simp only at cO dz dA dC;clear E;obtain⟨Y,E⟩:=nm (xs[m]);have H:=HS.iX cK;rw[←E] at H;have ay:=Kz E;obtain⟨T,o1⟩:=Y;obtain⟨X,Z,ae,ah⟩:=H;simp only at X Z ae ah;clear E;have k0:(0:Int)≤(k:Int):=by omega
    have k1:(k:Int)<(xs.length:Int):=by omega
    have m0:(0:Int)≤(m:Int):=by omega
    have m1:(m:Int)<(xs.length:Int):=by omega
    have iw:=zI1 k (by omega)
    have dG:IntKind.i64.wrap ((k:Int) - 1)=(m:Int):=by
     rw[show(k:Int) - 1=(m:Int) by omega];exact IntWalk.i64_in _ (by omega)
    clear dA dC ae ah hm HS
    have U:(p0=T∧p1=o1)∨(p0≠T)∨(p0=T∧p1.toList≠o1.toList):=
     (Classical.em (p0=T)).elim (fun t0=>(Classical.em (p1=o1)).elim (fun t1=>.inl ⟨t0,t1⟩) (fun t1=>.inr (.inr ⟨t0,fun e=>t1 (str_inj e)⟩))) (fun t0=>.inr (.inl t0))
    rcases U with⟨rfl,rfl⟩|e|⟨rfl,e⟩
    ·have ik:=Kz (au.o.symm.trans ay.o)
     go_wp2_with fail
     go_region
     all_goals
      have kL:k≤ca:=by omega
      go_wp2_with fail;clear cO dz X Z dG m0 m1;have aL:=Kz (HG.o.trans (gd:Gr W1 W1.drew))
      go_loopw [3,5] (fun s3 s5 wr=>∃(i j B:Nat) (s:List ag),Ky (B+1=j)∧k≤i∧i<k+j∧k+j≤xs.length∧Ky (s.length=xs.length)∧Ky (s.drop (k+B)=xs.drop (k+B))∧Ky (∀o:ag,o∈s.take i↔o∈xs.take (k+j))∧Ky (SlR fp wr (.slice (some ⟨b,off,none⟩) xs.length ca) s)∧Ky (Wr fp w wr)∧s3=.int .i64 i∧s5=.int .i64 j) (fun s3 s5 _=>xs.length - k - (intOf s5).toNat)
      case atStart=>
       refine⟨k,1,0,xs,Kz rfl,le_refl _,by omega,by omega,Kz rfl,Kz rfl,Kz ?_,Kz (HU.o.gr aL.o),Kz (aL.o.eF fp),rfl,rfl⟩;intro o
       rw[mI bV];exact⟨fun h=>.inl h,fun h=>h.elim id fun h=>by rw[h,ik.o];exact dK cK (by have:=HM.o;omega)⟩
      case round=>
       clear HG aL;obtain⟨i,j,B,s,K,jN,kQ,kS,I,aN,aS,D,aV,rfl,rfl⟩:=hrel
       rename World=>J
       have bg:i<s.length:=by have:=I.o;omega
       have kT:=zI1 j (by omega);have kV:=zI1 i (by omega);have i0:(0:Int)≤(i:Int):=by omega
       have i1:(i:Int)<(xs.length:Int):=by omega
       have j0:(0:Int)≤(j:Int):=by omega
       by_cases ai:k+j<xs.length
       ·have dL:k+j<s.length:=by have:=I.o;omega
        have bq:k+B<s.length:=by have:=I.o;have:=K.o;omega
        have bB:k+B<xs.length:=by have:=I.o;omega
        have e1:s[k+B]=xs[k+B]:=by
         have:=congrArg (fun l=>l[0]?) aN.o;simpa[bq,bB] using this
        have e2:s[k+j]=xs[k+j]:=by
         have h3:=K.o;have:=congrArg (fun l=>l[1]?) aN.o;simp only[List.getElem?_drop] at this;rw[show k+B+1=k+j by omega] at this;simpa[dL,ai] using this
        have E1:=Kz e1;have E2:=Kz e2;clear e1 e2;have HS:=D.o;obtain⟨Y,E⟩:=nm (s[k+j]);have H:=HS.iX dL;rw[←E] at H;have au:=Kz E;obtain⟨q0,q1⟩:=Y;obtain⟨dU,dW,bD,bH⟩:=H;simp only at dU dW bD bH;clear E;obtain⟨Y,E⟩:=nm (s[k+B]);have H:=HS.iX bq;rw[←E] at H;have ay:=Kz E;obtain⟨T,o1⟩:=Y;obtain⟨X,Z,ae,ah⟩:=H;simp only at X Z ae ah;clear E;rw[Nat.add_mul,←add_assoc] at dU dW X Z;have HW:=Kz (And.intro bD bH);have kj:(j:Int)<((xs.length - k:Nat):Int):=by omega
        have kX:(B:Int)<((xs.length - k:Nat):Int):=by have:=K.o;omega
        have kZ:(0:Int)≤(B:Int):=by omega
        have dG:IntKind.i64.wrap ((j:Int) - 1)=(B:Int):=by
         have h3:=K.o;rw[show(j:Int) - 1=(B:Int) by omega];exact IntWalk.i64_in _ (by omega)
        clear bD bH ae ah HS
        have HD:=Kz (show s.drop (k+j)=xs.drop (k+j) by
         have h3:=K.o;have h4:=congrArg (List.drop 1) aN.o;rw[List.drop_drop,List.drop_drop] at h4;rw[show k+B+1=k+j by omega] at h4;exact h4)
        have U:(q0=T∧q1=o1)∨(q0≠T)∨(q0=T∧q1.toList≠o1.toList):=
         (Classical.em (q0=T)).elim (fun t0=>(Classical.em (q1=o1)).elim (fun t1=>.inl ⟨t0,t1⟩) (fun t1=>.inr (.inr ⟨t0,fun e=>t1 (str_inj e)⟩))) (fun t0=>.inr (.inl t0))
        rcases U with⟨rfl,rfl⟩|e|⟨rfl,e⟩
        ·have gm:=Kz (show xs[k+j]=xs[k+B] by rw[←E1.o,←E2.o,←au.o,←ay.o])
         go_wp2_with fail
         go_region
         all_goals
          go_wp2_with fail;refine⟨⟨i,j+1,j,s,Kz rfl,jN,by omega,by omega,I,HD,Kz ?_,Kz (D.o.gr gd),Kz (aV.o.gr gd),rfl,by go_num⟩,by simp[intOf];omega⟩;intro o
          rw[aS.o,←add_assoc,mI ai,gm.o];exact⟨fun h=>.inl h,fun h=>h.elim id fun h=>by rw[h];exact dK bB (by have:=K.o;omega)⟩
        all_goals
         obtain⟨eH,fe,-,-⟩:=D.o.iX bg;have lq:=D.o.kR (i:=i*2) (by omega);have jX:=D.o.kR (i:=i*2+1) (by omega);rw[←add_assoc] at jX;obtain⟨t0,fu⟩:=nm (s[i].1);obtain⟨t1,fw⟩:=nm (s[i].2);rw[←fu] at eH;rw[←fw] at fe;clear fu fw;go_wp2_with fail
         go_region
         all_goals
          go_wp2_with fail;refine⟨⟨i+1,j+1,j,s.set i (q0,q1),Kz rfl,by omega,by omega,by omega,Kz (by simpa using I.o),Kz ?_,Kz ?_,Kz (SlR.gr ?_ (show Gr ((J.setCell ⟨b,off+i*2,none⟩ (.int .i64 q0)).setCell ⟨b,off+i*2+1,none⟩ (.string q1)) _ from Gr.drew (Gr.refl _))),Kz (Wr.gr ?_ (show Gr ((J.setCell ⟨b,off+i*2,none⟩ (.int .i64 q0)).setCell ⟨b,off+i*2+1,none⟩ (.string q1)) _ from Gr.drew (Gr.refl _))),by go_num,by go_num⟩,by simp[intOf];omega⟩
          ·rw[List.drop_set_of_lt (by omega)];exact HD.o
          ·intro o
           rw[List.take_succ_eq_append_getElem (by simpa using bg),List.take_set_of_le (le_refl _),List.mem_append,List.mem_singleton,List.getElem_set_self,aS.o,←add_assoc,mI ai,←E2.o,←au.o]
          ·obtain⟨cs,fq,-,j4,-,lG,lV,-,-,gB⟩:=D.o.focus gM.o bg
           obtain rfl:fq=[]:=mU nK nI _ _ _ _ j4;have gD:Foc b (off+i*Rd.n av) (Rd.n av) [] J ((J.setCell ⟨b,off+i*2,none⟩ (.int .i64 q0)).setCell ⟨b,off+i*2+1,none⟩ (.string q1)):=((Foc.refl _ _ _ _ _).set (o:=off+i*2) (by show off+i*2≤_;omega) (by show _<off+i*2+2;omega) _).set (o:=off+i*2+1) (by show off+i*2≤_;omega) (by show _<off+i*2+2;omega) _;refine gB _ [.int .i64 q0,.string q1] (q0,q1) gD (fun m v hm=>?_) (by simpa using bZ q0 q1 HW.o.1 HW.o.2)
           match m,hm with
           |0,hm=>
            obtain rfl:=Option.some.inj hm;have h8:=iY (v:=.int .i64 q0) eH
            show((J.setCell ⟨b,off+i*2,none⟩ (.int .i64 q0)).setCell ⟨b,off+i*2+1,none⟩ (.string q1)).cell? ⟨b,off+i*2,none⟩=_
            rw[jR (b:=b) (o:=off+i*2+1) (o':=off+i*2) (by omega)];exact h8
           |1,hm=>
            obtain rfl:=Option.some.inj hm;have h9:(J.setCell ⟨b,off+i*2,none⟩ (.int .i64 q0)).cell? ⟨b,off+i*2+1,none⟩=some (.string t1):=by rw[jR (b:=b) (o:=off+i*2) (o':=off+i*2+1) (by omega)];exact fe
            exact iY (v:=.string q1) h9
          ·exact((aV.o).setCell (by rw[ax.o];simp) _).setCell (by rw[ax.o];simp) _
       ·have fA:k+j=xs.length:=by omega
        have j5:=Kz fA;have gF:0<xs.length - i:=by omega
        have l5:i≤ca:=by omega
        obtain⟨L,hL⟩:∃L,(Builtin.zeroCells (Value.agg #[.int .i64 0,.string ByteArray.empty]).cells (xs.length - i)).toList=L:=⟨_,rfl⟩;have ku:L.length=(xs.length - i)*2:=by rw[←hL];simp[Builtin.zeroCells,Value.cells]
        have fK:∀v∈L,v.oneCell'=true:=by
         intro v hv
         rw[←hL] at hv;obtain⟨m,hm,rfl⟩:=List.mem_iff_getElem.1 hv;simp only[Builtin.zeroCells,Value.cells,Array.getElem_toList,Array.getElem_map,Array.getElem_range];have O:m % 2=0∨m % 2=1:=by omega
         rcases O with O|O<;>·show(#[Value.int .i64 0,Value.string ByteArray.empty][m % 2]!).oneCell'=true;rw[O];rfl
        have aj:=I.o
        have l6:∀ty,(Builtin.clear_ #[129] ty #[.slice (some ⟨b,off+i*2,none⟩) (xs.length - i) (ca - i)]).run Tryz.prog J=.ok (.tuple #[]) (J.setCells b (off+i*2) L):=fun ty=>
         vS J _ 132 ty (.agg #[.int .i64 0,.string ByteArray.empty]) Tryz.underlying129 (fun w=>by first|rfl|kernel_rfl|simp[zeroValue]) b (off+i*2) _ _ gF L hL fK
          (fun t ht=>by
           have h5:=D.o.iX (i:=i+t / 2) (by omega);have O:t % 2=0∨t % 2=1:=by omega
           rcases O with O|O
           ·rw[show off+i*2+t=off+(i+t / 2)*2 by omega,h5.1];rfl
           ·rw[show off+i*2+t=off+(i+t / 2)*2+1 by omega,h5.2.1];rfl)
          (fun t ht=>by rw[add_assoc];exact D.o.kR (by omega))
        have kj:¬(j:Int)<((xs.length - k:Nat):Int):=by omega
        have ky:=Kz aj;clear hL fK ku fA aj;go_wp2_with fail;go_ret;have aj:=ky.o;have gH:(s.take i).length=i:=by simp;omega
        have bK:∀q (hq:q<(s.take i).length),(J.setCells b (off+i*2) L).cell? ⟨b,off+q*2,none⟩=some (.int .i64 (s.take i)[q].1)∧(J.setCells b (off+i*2) L).cell? ⟨b,off+q*2+1,none⟩=some (.string (s.take i)[q].2)∧(Lit.int .i64 (s.take i)[q].1).wf=true∧(s.take i)[q].2.size≤maxLen:=by
         intro q hq
         have h5:=D.o.iX (i:=q) (by omega);rw[List.getElem_take];refine⟨?_,?_,h5.2.2.1,h5.2.2.2⟩
         ·rw[World.cell?_setCells_out b _ _ _ _ (fun _ _=>.inl (by show off+q*2<off+i*2;omega))]
          exact h5.1
         ·rw[World.cell?_setCells_out b _ _ _ _ (fun _ _=>.inl (by show off+q*2+1<off+i*2;omega))]
          exact h5.2.1
        obtain⟨fq,hs,l7⟩:=SlR.EI (cap:=ca) bK (fun j hj=>by rw[World.frozen?_setCells];exact D.o.kR (by omega)) (by omega) (by unfold bn;omega);rw[gH] at hs;refine⟨_,rfl,fq,s.take i,hs,fun o b2=>?_,by omega,Wr.setCells (by rw[ax.o];simp) _ aV.o⟩;rw[aS.o,j5.o,take_length]
    all_goals
     go_wp2_with fail
     go_region
     all_goals
      go_wp2_with fail;exact⟨⟨k+1,by omega,by omega,Kz (tg HG),by go_num⟩,by simp[intOf];omega⟩
   ·obtain rfl:k=xs.length:=by omega
    go_wp2_with fail;go_ret;exact⟨_,fp,xs,rfl,HU.o.gr (tg HG),fun o=>Iff.rfl,le_refl _,(tg HG).eF fp⟩
variable{d:Nat}
theorem OV(fp:List Nat)(cs:Array Value)(x:aA d)(w:World)(hx:Rd.rd fp w cs.toList x)(hl:cZ (d+1) x≤1048576):Calls Tryz.prog 165 #[.agg cs] w (O3 (gP (d+1) x) 1048576 w):=by
 have HL:=Kz hl;have T:=Kz (tH (d+1) x);obtain⟨q0,q1,q2,q3,q4,q5,q6,U,X,dA,rfl,rfl,-,dC,dG,dL,dU,dW,eH,fe,cK,cO⟩:=KU hx;have HX:=Kz hx;clear hx;clear hl;go_in;go_wp2_with fail;obtain⟨B,H⟩:=nm (((w.alloc (.cells #[.int .i64 q0,.int .i64 q1,.int .i64 q2,.int .i64 q3,.string q4,.string q5,.slice U q6.length X] 115)).alloc (.cells #[] 132)).alloc (.cells #[.slice (some ⟨w.heap.size+1,0,none⟩) 0 0] 129));rw[←H];have gB:Gr w B:=by rw[H];exact gd
 have vB:az B (w.heap.size+1+1) 129 [.slice (some ⟨w.heap.size+1,0,none⟩) 0 0]:=by rw[H];exact az.new (by simp)
 have oB:bE (α:=ag) w 132 B (.slice (some ⟨w.heap.size+1,0,none⟩) 0 0) [] []:=by
  rw[H];exact(bE.kF (α:=ag) (w0:=w) (w:=w.alloc (.cells #[.int .i64 q0,.int .i64 q1,.int .i64 q2,.int .i64 q3,.string q4,.string q5,.slice U q6.length X] 115)) 132 (by simp) (by simp)).gr gd
 have HS:=Kz (show qY w (w.heap.size+1+1) (w.heap.size+1) B [] from⟨gB,by omega,by omega,vB.frozen 0,_,[],vB.c 0,oB,rfl,rfl⟩);clear H vB oB;refine(EJ w (w.heap.size+1+1) (d+1) _ _ (q0,q1,q2,q3,q4,q5,q6) (w.heap.size+1) B [] HX.o HS.o (by have:=HL.o;simp;omega)).mono ?_;rintro e w2 ⟨rfl,g2,q,aL⟩;rw[List.nil_append] at q;obtain⟨US,I⟩:=nm (gP (d+1) ((q0,q1,q2,q3,q4,q5,q6):aA d));rw[←I] at q T ⊢;have Y:US.length≤1048576:=by have h1:=T.o;have h2:=HL.o;omega
 have E:=Kz Y;have aN:=Kz q.gr;have Z:=q.ne;have aS:=q.lt;have fu:=q.fz;obtain⟨v2,dz,ae,D,aV,s⟩:=q.row;obtain⟨fr,ah,aZ⟩:=D.slR (by unfold bn;omega)
 obtain⟨cap,rfl⟩:∃cap,v2=.slice (some ⟨g2,0,none⟩) US.length cap:=by
  obtain⟨⟨fw,ho,-⟩,-⟩:=D;rcases ho.2 with⟨rfl,-⟩|⟨g',cap,cur,rfl,-⟩
  ·cases s
  ·injection s with s
   simp only at s;subst s;exact⟨cap,rfl⟩
 have bg:=Kz ah;have bq:=Kz ae;have J:=Kz (And.intro Z aS);have fA:=blk ae;have ay:=Kz I;clear I Y q aL D aV s aZ ah Z;go_wp2_with fail;refine(Cc US _ (bg.o.gr gd) (by have h:=J.o.2.2.1;have h2:=(gd:Gr w2 _).size;omega) E.o).mono ?_;rintro e w3 ⟨rfl,ys,fq,hmem,hlen,K,ai,O⟩;rw[hlen] at K;have bB:=Kz hmem;have aj:=Kz hlen;have bD:=Kz K;have au:=Kz ai;have bH:=Kz O;have bK:=O.aO ((gd:Gr w2 _).keep bq.o) (by have:=J.o.1;simpa using this);have fK:=blk bK;clear hmem hlen K ai O;go_wp2_with fail;refine(xH ys _ (by exact(bD.o.gr gd)) (au.o.nodup (by simp)) (by have h1:=aj.o;have h2:=E.o;omega)).mono ?_;rintro e w4 ⟨v4,f4,zs,rfl,bL,bN,gm,bV⟩;go_wp2_with fail;go_ret;refine⟨v4,f4,zs,rfl,bL,fun z=>by rw[bN z,bB.o z,ay.o],by have h1:=aj.o;have h2:=E.o;omega,?_⟩;have ax:w.heap.size≤g2:=J.o.2.2.2;refine Gr.wr (Gr.trans (Gr.wr (tg aN) bH.o (fun b hb=>by rw[List.mem_singleton.1 hb];exact ax)) gd) bV (fun b hb=>?_);have:=au.o.subset hb;rw[List.mem_singleton.1 this];exact ax
theorem Ba(fp:List Nat)(cs:Array Value)(x:aA d)(w:World)(h:Rd.rd fp w cs.toList x)(q:cZ (d+1) x≤1048576):Calls Tryz.prog 165 #[.agg cs] w (Ho (gP (d+1) x) w):=
 (OV fp cs x w h q).mono fun e w' ⟨u,fq,ys,h1,h2,h3,_,h4⟩=>⟨u,fq,ys,h1,h2,h3,h4⟩
def JM(d:Nat):Prop:=∀(fg:List Nat) (cg:Array Value) (g:af d) (w:World) (q:Rd.rd fg w cg.toList g) (s:aP g≤1048576) (B:0<g.1.length) (h:g.1.length≤1000),
 Calls Tryz.prog 201 #[.agg cg] w fun e w'=>∃v fq,e=.returned v∧SlR fq w' v (hts g g.1.length)∧Gr w w'
theorem JP{ss:List bC}(s:kM Prod.fst ss){i:Nat}(h:i<ss.length):atS ss ss[i].1=i:=
 iH h (by simp) (fun j B q=>by
  have:=s i h j B q;exact decide_eq_false this)
theorem CU{g:af d}(I:kM Prod.fst g.1):Ga g↔∀y∈hts g g.1.length,y≠0:=by
 have B:=Ay g g.1.length (le_refl _)
 have hm:∀i (h:i<g.1.length),xC g g.1[i].1=(hts g g.1.length)[i]'(by rw[B.1];exact h):=by
  intro i h
  unfold xC;rw[JP I h,if_neg (by omega)];simp only[Int.toNat_natCast];rw[List.getD_eq_getElem?_getD,List.getElem?_eq_getElem (by rw[B.1];exact h)];rfl
 constructor
 ·intro E y J e
  obtain⟨i,D,rfl⟩:=List.mem_iff_getElem.1 J;have q:i<g.1.length:=by rw[←B.1];exact D
  have H:=E _ (getElem_mem q);rw[hm i q,e] at H;exact absurd H (by decide)
 ·intro E s K
  obtain⟨i,D,rfl⟩:=List.mem_iff_getElem.1 K;have q:i<(hts g g.1.length).length:=by rw[B.1];exact D
  rw[hm i D];have H:=E _ (getElem_mem q);have O:=(B.2 _ (getElem_mem q)).1;omega
theorem Br(ai:IE d)(hh:JM d){fg:List Nat}{cg:Array Value}(g:af d)(w:World)(hg:Rd.rd fg w cg.toList g)(hl:aP g≤1048576):
  Calls Tryz.prog 134 #[.agg cg] w (GoodAt g w):=by
 have Z:=Kz hl;have bH:=Kz ai;have HH:=Kz hh;clear ai hh;have HG:=Kz hg;obtain⟨s,q,ax,ay,ik,aL,aN,jN,rfl,rfl,-,jX,fe,fu,aS,fw,fA⟩:=yt hg;have bK:=aS.op3;clear hg;have aV:wtL bM s+wtL bF q≤1048576:=hl;have j4:s.length≤1048576:=by have:=bT bM s;omega
 have j5:q.length≤1048576:=by have:=bT bF q;omega
 have HL:=Kz aV;clear hl aV;go_in;go_wp2_with fail;refine(Am bH.o (s,q) _ (Rd.gr HG.o gd) Z.o).mono ?_;rintro e w' ⟨c,ci,rfl,hc,x1,rfl⟩;have HC:=Kz hc;clear hc
 by_cases K:c=0
 ·subst K
  have O:=Kz (HC.o.1 rfl);clear HC;go_wp2_with fail;generalize hB:((w.alloc (.cells #[.slice ax s.length ay,.slice aL q.length aN] 36)).ext x1)=B;have gB:Gr w B:=gb hB;obtain⟨bL,bN⟩:=kb2 hB (w.heap.size) (.slice ax s.length ay) (.slice aL q.length aN);clear hB;have aZ:0<s.length:=by have h1:1≤s.length:=O.o.1.1;omega
  have bg:s.length≤1000:=by have h1:s.length≤4:=O.o.1.2;omega
  have bV:=Kz aZ;have cK:=Kz bg;clear aZ bg
  go_loopw [22] (fun U wr=>∃k:Nat,k≤q.length∧Ky (∀r∈q.take k,kW (s,q) r)∧Ky (Gr B wr)∧U=.int .i64 k) (fun U _=>q.length - (intOf U).toNat)
  case atStart=>exact⟨0,by omega,Kz (by simp),Kz (Gr.refl _),rfl⟩
  case round=>
   obtain⟨k,hk,T,J,rfl⟩:=hrel
   rename World=>W3
   have ae:=gB.trans J.o;have D:=Kz ae;have y0:=bL _ J.o;have y1:=bN _ J.o;have zy:=blk y0
   by_cases I:k<q.length
   ·have aj:=Kz (fun h=>dD I T.o h)
    have X:=Kz (getElem_mem I);have cO:=dI bF q I;have dz:=Kz (show bF q[k]≤1048576 by have:=HL.o;omega);clear cO;obtain⟨b,off,rfl,ku⟩:=bK k I;obtain⟨p0,p1,p2,p3,p4,p5,ky,kz,kE,kL,kQ,kS,kT,kV,kX,kZ,au,bq,dA,dC,dG,fK,gm,dL,gD,gF,dU,gH,gM,lq,lG,lV,l5,l6,l7,l8⟩:=Lf aS I ae;have bB:=Kz (show bF (p0,p1,p2,p3,p4,p5)≤1048576 by rw[au.o];exact dz.o);have k0:(0:Int)≤(k:Int):=by omega
    have k1:(k:Int)<(q.length:Int):=by omega
    have iw:=zI1 k (by omega);obtain⟨M,hM⟩:=nm (pB (kW (s,q) (p0,p1,p2,p3,p4,p5)));have ah:=Kz hM;clear ae hM dA dC dG dL dU
    cases M with
    |true=>
     go_wp2_with (first|(go_at_call 200;refine(qi (s,q) (p0,p1,p2,p3,p4,p5) _ (Rd.gr HG.o (tg D)) (Rd.gr bq.o (tg D)) Z.o bB.o).mono ?_;rintro e w' ⟨rfl,x5,rfl⟩;rw[←ah.o]))
     exact⟨⟨k+1,by omega,Kz (aj.o (by rw[←au.o];exact dx.1 ah.o.symm)),Kz (tg J),by go_num⟩,by simp[intOf];omega⟩
    |false=>
     go_wp2_with (first|(go_at_call 200;refine(qi (s,q) (p0,p1,p2,p3,p4,p5) _ (Rd.gr HG.o (tg D)) (Rd.gr bq.o (tg D)) Z.o bB.o).mono ?_;rintro e w' ⟨rfl,x5,rfl⟩;rw[←ah.o]))
     exact bodyPost_ret (v:=.tuple #[.int .i64 7,.int .i64 k]) (by simp[results,Tryz.results134,go_sem]) rfl ⟨7,k,rfl,⟨fun h=>absurd h (by decide),fun h=>by
      have h1:=h.2.1 _ X.o;rw[←au.o] at h1;exact absurd h1 (lM ah.o.symm)⟩,D.o.trans gd⟩
   ·obtain rfl:k=q.length:=by omega
    rw[take_length] at T;have dW:=T;clear T;go_wp2_with fail;refine(HH.o _ _ (s,q) _ (Rd.gr HG.o (tg D)) Z.o bV.o cK.o).mono ?_;rintro e w' ⟨v,fq,rfl,Y,x5,rfl⟩;have gE:Gr W3 (W3.ext x5):=gd;generalize W3.ext x5=E at Y gE ⊢;have Y:SlR fq E v (hts (s,q) s.length):=Y;obtain⟨H,hH⟩:=nm (hts (s,q) s.length);rw[←hH] at Y;have bD:=Kz hH;have HS:=Kz Y;obtain⟨a,c,rfl,o1,o2,o3⟩:=Y.open;have eH:=Kz (D.o.trans gE);clear y0 y1 zy hH Y gE;go_wp2_with fail
    go_loopw [35] (fun U wr=>∃k:Nat,k≤H.length∧Ky (∀y∈H.take k,y≠0)∧Ky (Gr E wr)∧U=.int .i64 k) (fun U _=>H.length - (intOf U).toNat)
    case atStart=>exact⟨0,by omega,Kz (by simp),Kz (Gr.refl _),rfl⟩
    case round=>
     clear J D ae;obtain⟨k,hk,T,J,rfl⟩:=hrel
     rename World=>W4
     have D:=Kz (eH.o.trans J.o)
     by_cases I:k<H.length
     ·have aj:=Kz (fun h=>dD I T.o h)
      have X:=Kz (getElem_mem I);obtain⟨b,off,rfl,hb⟩:=o3 k I;have c1:=J.o.keep (HS.o.fQ I).1;obtain⟨y,hy⟩:=nm (H[k]);rw[←hy] at c1;have HY:=Kz hy;have k0:(0:Int)≤(k:Int):=by omega
      have k1:(k:Int)<(H.length:Int):=by omega
      have iw:=zI1 k (by omega);clear hy
      by_cases K:y=0
      ·have e0:(y==0)=true:=by simp[K]
       have H0:=Kz K;clear K;go_wp2_with fail
       exact bodyPost_ret (v:=.tuple #[.int .i64 8,.int .i64 k]) (by simp[results,Tryz.results134,go_sem]) rfl ⟨8,k,rfl,⟨fun h=>absurd h (by decide),fun h=>by
        have h1:=(CU O.o.2.2.1.2.1).1 h.2.2 y (by show y∈hts (s,q) s.length;rw[←bD.o,HY.o];exact X.o);exact absurd H0.o h1⟩,D.o.trans gd⟩
      ·have e0:(y==0)=false:=by simpa using K
       have H0:=Kz K;clear K;go_wp2_with fail;exact⟨⟨k+1,by omega,Kz (aj.o (by rw[←HY.o];exact H0.o)),Kz (tg J),by go_num⟩,by simp[intOf];omega⟩
     ·obtain rfl:k=H.length:=by omega
      rw[take_length] at T;have HP:=Kz (show Ga (s,q) from(CU O.o.2.2.1.2.1).2 (fun y hy=>T.o y (by rw[bD.o];exact hy)));go_wp2_with fail;exact bodyPost_ret (v:=.tuple #[.int .i64 0,.int .i64 0]) (by simp[results,Tryz.results134,go_sem]) rfl ⟨0,0,rfl,⟨fun _=>⟨O.o,dW.o,HP.o⟩,fun _=>rfl⟩,D.o⟩
 ·have ma:(c==0)=false:=by simpa using K
  have gT:(c !=0)=true:=by simpa using K
  go_wp2_with fail;exact bodyPost_ret (v:=.tuple #[.int .i64 c,.int .i64 ci]) (by simp[results,Tryz.results134,go_sem]) rfl ⟨c,ci,rfl,⟨fun h=>absurd h K,fun h=>absurd (HC.o.2 h.1) K⟩,gd⟩
theorem uu(q:IE d)(E:JM d){fg:List Nat}{cg:Array Value}(g:af d)(w:World)(s:Rd.rd fg w cg.toList g)(H:aP g≤1048576):
  Qz 69 #[.agg cg] w (.bool (pB (jI g))):=by
 have I:=Kz H;have B:=Kz q;have K:=Kz E;obtain⟨J,h⟩:=nm (pB (jI g));rw[←h];have D:=Kz h;clear h H q E;have O:=Kz s;obtain⟨T,U,ah,ai,aj,au,ax,ay,rfl,rfl,-,aL,X,Y,aN,Z,ae⟩:=yt s;clear s;delta Qz;go_in;go_wp2_with fail;refine(Br B.o K.o (T,U) _ (Rd.gr O.o gd) I.o).mono ?_;rintro e w' ⟨c,ci,rfl,hc,x1,rfl⟩;have HF:=Kz (show J=decide (c=0) by rw[D.o];exact lZ hc.symm);clear hc;go_wp2_with fail;go_ret;exact⟨aa (by rw[HF.o];try rfl),gd⟩
end Go.Proofs.YtdhighcpmcdmmaaGreat
