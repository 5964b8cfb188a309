/- Contracts and laws towards ReadsOf, part 45 of 54. No condition. -/
import Derived.Test.YtdhighcpmcdmmaaGreatFx37
set_option maxHeartbeats 32000000
set_option maxRecDepth 10000
set_option linter.unusedVariables false
set_option linter.unusedSimpArgs false
namespace Go.Proofs.YtdhighcpmcdmmaaGreat
open Go.RowKit
open _root_.List (append_nil flatten_cons take_length)
open _root_.Nat (add_assoc)
theorem Wr.NF{fp:List Nat}{b:Nat}(q:b∈fp)(vs:List Value):∀{a c:World} {o:Nat},Wr fp a c→Wr fp a (c.setCells b o vs):=by
 induction vs with
 |nil=>intro a c o h;exact h
 |cons v vs s=>intro a c o h;exact s (h.setCell q v)
theorem Nb{α:Type}(p:α→Bool)(xs:List α):(idxOf p xs= -1∧∀j (h:j<xs.length),p xs[j]=false)∨∃k:Nat,∃h:k<xs.length,idxOf p xs=k∧p xs[k]=true∧∀j (h:j<xs.length),j<k→p xs[j]=false:=by
 induction xs with
 |nil=>exact .inl ⟨rfl,fun j h=>by simp at h⟩
 |cons x xs E=>
  by_cases s:p x=true
  ·exact .inr ⟨0,by simp,by simp[idxOf,s],by simpa using s,fun j _ H=>by omega⟩
  ·have q:p x=false:=by simpa using s
   rcases E with⟨B,D⟩|⟨k,I,B,D,J⟩
   ·refine .inl ⟨by simp[idxOf,q,B],fun j h=>?_⟩
    cases j with
    |zero=>simpa using q
    |succ j=>simpa using D j (by simpa using h)
   ·refine .inr ⟨k+1,by simpa using I,?_,by simpa using D,fun j h H=>?_⟩
    ·simp[idxOf,q,B];omega
    ·cases j with
     |zero=>simpa using q
     |succ j=>simpa using J j (by simpa using h) (by omega)
theorem LJ{α:Type}{p:α→Bool}{xs:List α}(h:∀j (h:j<xs.length),p xs[j]=false):xs.filter (fun y=>!p y)=xs:=by
 rw[List.filter_eq_self];intro a q
 obtain⟨j,s,rfl⟩:=List.mem_iff_getElem.1 q;simp[h j s]
theorem SlR.MG{fp:List Nat}{w:World}{b off len cap:Nat}{xs:List ag}(h:SlR fp w (.slice (some ⟨b,off,none⟩) len cap) xs){i:Nat}(B:i<xs.length):
  w.cell? ⟨b,off+i*2,none⟩=some (.int .i64 xs[i].1)∧w.cell? ⟨b,off+i*2+1,none⟩=some (.string xs[i].2)∧(Lit.int .i64 xs[i].1).wf=true∧xs[i].2.size≤maxLen:=by
 obtain⟨cs,fq,hc,q,-⟩:=h.at B;obtain⟨y,D⟩:=nm (xs[i]);rw[←D] at q ⊢;obtain⟨q0,q1⟩:=y;obtain⟨s,-,E,H⟩:=bu (cs:=cs.toArray) q0 q1 (by simpa using q);obtain rfl:=toL s;exact⟨by simpa[Rd.n] using hc 0 _ rfl,hc 1 _ rfl,E,H⟩
theorem SlR.q9{fp:List Nat}{w:World}{b off len cap:Nat}{xs:List ag}(h:SlR fp w (.slice (some ⟨b,off,none⟩) len cap) xs){i:Nat}(s:i<xs.length*2):w.frozen? ⟨b,off+i,none⟩=false:=by
 obtain⟨a,cap,D,J,K,⟨rfl,rfl⟩|⟨O,E,fps,I,rfl,rfl,T,B,U⟩⟩:=h
 ·simp at s
 ·injection D with q X Y
  injection q with q;injection q with q H _;subst q H;exact B i s
theorem SlR.OI{fp:List Nat}{w:World}{b off len cap:Nat}{xs:List ag}(h:SlR fp w (.slice (some ⟨b,off,none⟩) len cap) xs)(s:0<xs.length):fp=[b]:=by
 obtain⟨a,cap,D,T,U,⟨rfl,rfl⟩|⟨X,E,fps,K,rfl,rfl,Y,O,H⟩⟩:=h
 ·simp at s
 ·injection D with q Z e3
  injection q with q;injection q with q I _;subst q I
  have:fps.flatten=[]:=by
   rw[List.flatten_eq_nil_iff];intro f J
   obtain⟨i,s,rfl⟩:=List.mem_iff_getElem.1 J;obtain⟨_,_,B⟩:=H i (by omega) s;exact mU nK nI _ _ _ _ B
  rw[this]
theorem SlR.OD{w:World}{b off cap:Nat}{xs:List ag}(h:∀j (q:j<xs.length),w.cell? ⟨b,off+j*2,none⟩=some (.int .i64 xs[j].1)∧w.cell? ⟨b,off+j*2+1,none⟩=some (.string xs[j].2)∧(Lit.int .i64 xs[j].1).wf=true∧xs[j].2.size≤maxLen)
  (E:∀j,j<xs.length*2→w.frozen? ⟨b,off+j,none⟩=false) (hc:xs.length≤cap) (B:xs.length≤bn):
  ∃fq,SlR fq w (.slice (some ⟨b,off,none⟩) xs.length cap) xs∧fq.Sublist [b]:=by
 by_cases D:xs=[]
 ·subst D
  exact⟨[],⟨_,cap,rfl,hc,B,.inl ⟨rfl,rfl⟩⟩,by simp⟩
 ·refine⟨[b],⟨_,cap,rfl,hc,B,.inr ⟨b,off,List.replicate xs.length [],D,rfl,by simp,by simp,fun j q=>E j q,fun i s H=>?_⟩⟩,by simp⟩
  refine⟨[.int .i64 xs[i].1,.string xs[i].2],fun j v q=>?_,by simpa using bO (w:=w) xs[i].1 xs[i].2 (h i s).2.2.1 (h i s).2.2.2⟩
  match j,q with
  |0,q=>obtain rfl:=Option.some.inj q;simpa[Rd.n] using(h i s).1
  |1,q=>obtain rfl:=Option.some.inj q;exact(h i s).2.1
section
variable{P:Program}
theorem LP(w:World)(t e ty:TypeId)(z:Value)(q:P.underlying t=some (.slice e))(s:∀w,(zeroValue e).run P w=.ok z w)(b o n c:Nat)(H:0<n)(L:List Value)(B:(Builtin.zeroCells z.cells n).toList=L)(D:∀v∈L,v.oneCell'=true)
  (hc:∀j,j<L.length→(w.cell? ⟨b,o+j,none⟩).isSome=true) (E:∀j,j<L.length→w.frozen? ⟨b,o+j,none⟩=false):
  (Builtin.clear_ #[t] ty #[.slice (some ⟨b,o,none⟩) n c]).run P w=.ok (.tuple #[]) (w.setCells b o L):=by
 have h:=run_storeCells_cells (P:=P) b o L 0 w (by simpa using hc) (by simpa using E) D;simp only[Nat.add_zero] at h;obtain⟨m,rfl⟩:∃m,n=m+1:=⟨n - 1,by omega⟩;simp[Builtin.clear_,run_underlying q,s,B,h]
end
structure TestDelO(fp:List Nat)(w:World)(fid:Nat)(cap:Array Value)(p:ag→Bool):Prop where
 fn:∀args W,(callFunc fid args).run Tryz.prog W=.ok (.enter fid args) W
 calls:∀(y:ag) W (fp':List Nat) (cs:Array Value),Wr fp w W→Rd.rd fp' W cs.toList y→Calls Tryz.prog fid (#[.agg cs]++cap) W fun e w'=>e=.returned (.bool (p y))∧Gr W w'
def OE(fp:List Nat)(w:World)(h:List ag)(e:Ending)(w':World):Prop:=∃v fq,e=.returned v∧SlR fq w' v h∧fq.Sublist fp∧Wr fp w w'
theorem L6(fp:List Nat)(u:Value)(xs:List ag)(au:Nat)(cap:Array Value)(p:ag→Bool)(w:World)(hu:SlR fp w u xs)(gB:fp.Nodup)(hlen:xs.length≤1048576)(hf:TestDelO fp w au cap p):
  Calls Tryz.prog 143 #[u,.func (.func au) #[] cap] w (OE fp w (xs.filter fun y=>!p y)):=by
 have HU:=Kz hu;obtain⟨a,ca,rfl,h1,E,h3⟩:=hu.open;obtain⟨gD,D⟩:=hf;have hT:TestOccurrence w au cap p xs:=⟨gD,fun y _ x gF cs hr=>D y _ gF cs (((Gr.refl w).ext x).eF fp) hr⟩;have HT:=Kz hT;have HC:=Kz D;clear D hT hu;rcases Nb p xs with⟨O,ax⟩|⟨k0,bB,O,bD,bH⟩
 ·have HE:=Kz O
  have HF:=Kz (LJ ax);clear O ax h3;go_in;go_wp2_with fail;refine(mR _ _ xs _ _ _ _ HU.o HT.o).mono ?_;rintro e w' ⟨rfl,x1,rfl⟩;rw[HE.o];go_wp2_with fail;go_ret;exact⟨_,fp,rfl,by rw[HF.o];exact HU.o.gr gd,List.Sublist.refl _,((Gr.refl w).ext x1).eF fp⟩
 ·obtain⟨b,off,rfl,hb⟩:=h3 k0 bB
  have bK:fp=[b]:=HU.o.OI (by omega);have U:=Kz bK;have HE:=Kz O;have j4:((k0:Int)==-1)=false:=beq_eq_false_iff_ne.2 (by omega);have HK:=Kz (And.intro bD bH);clear O bD bH h3 bK;go_in;go_wp2_with fail;refine(mR _ _ xs _ _ _ _ HU.o HT.o).mono ?_;rintro e w' ⟨rfl,x1,rfl⟩;rw[HE.o];go_wp2_with fail;have gH:=Kz (((Gr.refl w).ext x1).eF fp)
  go_loopw [5,6,7] (fun s5 s6 _ wr=>∃(i j:Nat) (h:List ag),i<j∧j≤xs.length∧Ky (h.length=xs.length)∧Ky (h.take i=(xs.take j).filter fun y=>!p y)∧Ky (h.drop j=xs.drop j)∧Ky (SlR fp wr (.slice (some ⟨b,off,none⟩) xs.length ca) h)∧Ky (Wr fp w wr)∧s5=.int .i64 i∧s6=.int .i64 j) (fun _ s6 _ _=>xs.length - (intOf s6).toNat)
  case atStart=>
   refine⟨k0,k0+1,xs,by omega,by omega,Kz rfl,Kz ?_,Kz rfl,Kz (HU.o.gr gd),gH,rfl,by go_num⟩
   have O:(xs.take k0).filter (fun y=>!p y)=xs.take k0:=LJ fun j hj=>by
    rw[List.getElem_take];exact HK.o.2 j (by simp at hj;omega) (by simp at hj;omega)
   rw[List.take_succ_eq_append_getElem bB,List.filter_append,O];simp[HK.o.1]
  case round=>
   obtain⟨i,j,h,ky,kz,H,bL,ay,s,X,rfl,rfl⟩:=hrel
   rename World=>wr
   have aL:i<h.length:=by have:=H.o;omega
   by_cases bN:j<xs.length
   ·have bV:j<h.length:=by have:=H.o;omega
    have cK:h[j]=xs[j]:=by
     have:=congrArg (fun l=>l[0]?) ay.o;simpa[bV,bN] using this
    obtain⟨Y,hY⟩:=nm (xs[j]);have aj:=s.o.MG bV;rw[cK,←hY] at aj;have HY:=Kz hY;obtain⟨q0,q1⟩:=Y;obtain⟨cO,dz,Z,ae⟩:=aj;simp only at cO dz Z ae;obtain⟨ah,aN,-,-⟩:=s.o.MG aL;have gM:=s.o.q9 (i:=i*2) (by omega);have dA:=s.o.q9 (i:=i*2+1) (by omega);rw[←add_assoc] at dA;have dC:∀W,Rd.rd (α:=ag) ([]++[]) W [.int .i64 q0,.string q1] (q0,q1):=fun W=>bO q0 q1 Z ae
    have B:=HC.o (q0,q1) (wr.alloc (.cells #[.int .i64 q0,.string q1] 132)) _ #[.int .i64 q0,.string q1] (X.o.gr gd) (dC _);have HW:=Kz (And.intro Z ae)
    have bq:Ky (∀v:ag,(h.set i v).drop (j+1)=xs.drop (j+1)):=Kz fun v=>by
     rw[List.drop_set_of_lt (by omega)];have:=congrArg (List.drop 1) ay.o;simpa[Nat.add_comm] using this
    have aS:Ky (h.drop (j+1)=xs.drop (j+1)):=Kz (by
     have:=congrArg (List.drop 1) ay.o;simpa[Nat.add_comm] using this)
    have dG:Ky ((xs.take (j+1)).filter (fun y=>!p y)=(h.take i)++if p (q0,q1) then[] else[(q0,q1)]):=Kz (by
     rw[List.take_succ_eq_append_getElem bN,List.filter_append,bL.o,←HY.o]
     cases hp:p (q0,q1)<;>simp[hp])
    have zi:=blk ah;clear cK Z ae dC hY;obtain⟨o0,dL⟩:=nm (h[i].1);obtain⟨o1,dU⟩:=nm (h[i].2);rw[←dL] at ah;rw[←dU] at aN;clear dL dU
    cases I:p (q0,q1) with
    |true=>
     rw[I] at B;have HQ:=Kz I;clear I;go_wp2_with fail;refine B.mono ?_;rintro e J ⟨rfl,x2,rfl⟩;go_wp2_with fail;refine⟨⟨i,j+1,h,by omega,by omega,H,Kz ?_,aS,Kz (s.o.gr gd),Kz (X.o.gr gd),rfl,by go_num⟩,by simp[intOf];omega⟩;rw[dG.o,HQ.o];simp
    |false=>
     rw[I] at B;have HQ:=Kz I;clear I;go_wp2_with fail;refine B.mono ?_;rintro e J ⟨rfl,g2⟩;have K:Gr wr J:=(gd:Gr wr (wr.alloc (.cells #[.int .i64 q0,.string q1] 132))).trans g2;have gT:J.cell? ⟨wr.heap.size,0,none⟩=some (.int .i64 q0):=g2.keep (aJ rfl rfl);have kE:J.cell? ⟨wr.heap.size,1,none⟩=some (.string q1):=g2.keep (aJ rfl rfl);have ai:=s.o.gr K;have aV:=K.keep ah;have eH:=K.keep aN;have j5:=ai.q9 (i:=i*2) (by omega);have fe:=ai.q9 (i:=i*2+1) (by omega);rw[←add_assoc] at fe;have kL:=blk aV;have zb:=blk gT;have ik:=Kz ai;clear ah aN gM dA zi cO dz ai B;have aZ:=X.o.gr K;have fu:=Kz aZ;clear aZ g2 K;go_wp2_with fail;refine⟨⟨i+1,j+1,h.set i (q0,q1),by omega,by omega,Kz (by simpa using H.o),Kz ?_,Kz (bq.o _),Kz ?_,Kz ?_,by go_num,by go_num⟩,by simp[intOf];omega⟩
     ·rw[dG.o,HQ.o,List.take_succ_eq_append_getElem (by simpa using aL),List.take_set_of_le (Nat.le_refl _)]
      simp
     ·obtain⟨cs,fq,-,iw,-,kQ,kS,-,-,fw⟩:=ik.o.focus gB aL
      obtain rfl:fq=[]:=mU nK nI _ _ _ _ iw;have fA:Foc b (off+i*Rd.n ag) (Rd.n ag) [] J ((J.setCell ⟨b,off+i*2,none⟩ (.int .i64 q0)).setCell ⟨b,off+i*2+1,none⟩ (.string q1)):=((Foc.refl _ _ _ _ _).set (o:=off+i*2) (by show off+i*2≤_;omega) (by show _<off+i*2+2;omega) _).set (o:=off+i*2+1) (by show off+i*2≤_;omega) (by show _<off+i*2+2;omega) _;refine fw _ [.int .i64 q0,.string q1] (q0,q1) fA (fun m v hm=>?_) (by simpa using bO q0 q1 HW.o.1 HW.o.2)
      match m,hm with
      |0,hm=>
       obtain rfl:=Option.some.inj hm;have h8:=iY (v:=.int .i64 q0) aV
       show((J.setCell ⟨b,off+i*2,none⟩ (.int .i64 q0)).setCell ⟨b,off+i*2+1,none⟩ (.string q1)).cell? ⟨b,off+i*2,none⟩=_
       rw[jR (b:=b) (o:=off+i*2+1) (o':=off+i*2) (by omega)];exact h8
      |1,hm=>
       obtain rfl:=Option.some.inj hm;have h9:(J.setCell ⟨b,off+i*2,none⟩ (.int .i64 q0)).cell? ⟨b,off+i*2+1,none⟩=some (.string o1):=by rw[jR (b:=b) (o:=off+i*2) (o':=off+i*2+1) (by omega)];exact eH
       exact iY (v:=.string q1) h9
     ·exact((fu.o).setCell (by rw[U.o];simp) _).setCell (by rw[U.o];simp) _
   ·obtain rfl:j=xs.length:=by omega
    have fK:0<xs.length - i:=by omega
    have kT:i≤ca:=by omega
    obtain⟨L,hL⟩:∃L,(Builtin.zeroCells (Value.agg #[.int .i64 0,.string ByteArray.empty]).cells (xs.length - i)).toList=L:=⟨_,rfl⟩;have jN:L.length=(xs.length - i)*2:=by rw[←hL];simp[Builtin.zeroCells,Value.cells]
    have dW:∀v∈L,v.oneCell'=true:=by
     intro v hv
     rw[←hL] at hv;obtain⟨m,hm,rfl⟩:=List.mem_iff_getElem.1 hv;simp only[Builtin.zeroCells,Value.cells,Array.getElem_toList,Array.getElem_map,Array.getElem_range];have E:m % 2=0∨m % 2=1:=by omega
     rcases E with E|E<;>·show(#[Value.int .i64 0,Value.string ByteArray.empty][m % 2]!).oneCell'=true;rw[E];rfl
    have ku:=H.o
    have kV:∀ty,(Builtin.clear_ #[129] ty #[.slice (some ⟨b,off+i*2,none⟩) (xs.length - i) (ca - i)]).run Tryz.prog wr=.ok (.tuple #[]) (wr.setCells b (off+i*2) L):=fun ty=>
     LP wr _ 132 ty (.agg #[.int .i64 0,.string ByteArray.empty]) Tryz.underlying129 (fun w=>by first|rfl|kernel_rfl|simp[zeroValue]) b (off+i*2) _ _ fK L hL dW
      (fun t ht=>by
       have T:=s.o.MG (i:=i+t / 2) (by omega);have E:t % 2=0∨t % 2=1:=by omega
       rcases E with E|E
       ·rw[show off+i*2+t=off+(i+t / 2)*2 by omega,T.1];rfl
       ·rw[show off+i*2+t=off+(i+t / 2)*2+1 by omega,T.2.1];rfl)
      (fun t ht=>by rw[add_assoc];exact s.o.q9 (by omega))
    clear hL dW jN;go_wp2_with fail;go_ret;have gm:(h.take i).length=i:=by simp;omega
    have bg:∀q (I:q<(h.take i).length),(wr.setCells b (off+i*2) L).cell? ⟨b,off+q*2,none⟩=some (.int .i64 (h.take i)[q].1)∧(wr.setCells b (off+i*2) L).cell? ⟨b,off+q*2+1,none⟩=some (.string (h.take i)[q].2)∧(Lit.int .i64 (h.take i)[q].1).wf=true∧(h.take i)[q].2.size≤maxLen:=by
     intro q I
     have kX:q<i:=by omega
     have T:=s.o.MG (i:=q) (by omega);rw[List.getElem_take];refine⟨?_,?_,T.2.2.1,T.2.2.2⟩
     ·rw[World.cell?_setCells_out b _ _ _ _ (fun _ _=>.inl (by show off+q*2<off+i*2;omega))]
      exact T.1
     ·rw[World.cell?_setCells_out b _ _ _ _ (fun _ _=>.inl (by show off+q*2+1<off+i*2;omega))]
      exact T.2.1
    obtain⟨fq,hs,jX⟩:=SlR.OD (cap:=ca) bg (fun j hj=>by rw[World.frozen?_setCells];exact s.o.q9 (by omega)) (by omega) (by unfold bn;omega);rw[gm] at hs;refine⟨_,fq,rfl,?_,by rw[U.o];exact jX,Wr.NF (by rw[U.o];simp) _ X.o⟩;have e9:h.take i=xs.filter (fun y=>!p y):=by rw[bL.o,take_length]
    rw[←e9];exact hs
variable{d:Nat}
def exF(q:aX d):GE (d+1):=q.2
def exE(xs:List (aX d)):List (GE (d+1)):=xs.map exF
def exC(xs:List (aD d)):List (GE (d+1)):=xs.flatMap fun c=>[c.2.2.1,c.2.2.2]
theorem I1(xs:List (aX d)):(exE xs).length=xs.length:=List.length_map _
theorem I8(xs:List (aD d)):(exC xs).length=2*xs.length:=by
 induction xs with
 |nil=>rfl
 |cons z h q=>
  show(([z.2.2.1,z.2.2.2]:List (GE (d+1)))++exC h).length=_
  rw[List.length_append,q,List.length_cons]
  show 2+2*h.length=_
  omega
theorem Ht(xs:List (aX d)){k:Nat}(h:k<xs.length):exE (xs.take (k+1))=exE (xs.take k)++([xs[k].2]:List (GE (d+1))):=by
 unfold exE;rw[List.take_succ_eq_append_getElem h,List.map_append];rfl
theorem GL(xs:List (aD d)){k:Nat}(h:k<xs.length):exC (xs.take (k+1))=exC (xs.take k)++([xs[k].2.2.1,xs[k].2.2.2]:List (GE (d+1))):=by
 unfold exC;rw[List.take_succ_eq_append_getElem h,List.flatMap_append];rfl
theorem eT.two{α:Type}[Rd α]{w:World}{e:TypeId}{cs q:List Value}{f1 f2:List Nat}{x y:α}{g:Nat}{arr:Array Value}(D:g=w.heap.size)(E:arr.toList=cs++q)(H:∀W,Gr w W→Rd.rd f1 W cs x)(I:∀W,Gr w W→Rd.rd f2 W q y):
  eT (α:=α) (w.alloc (.cells arr e)) (.slice (some ⟨g,0,none⟩) 2 2) [f1,f2] [x,y]:=by
 subst D;have s:Gr w (w.alloc (.cells arr e)):=gd;have h:=(Els.one (H _ s)).app (Els.one (I _ s));refine .inr ⟨w.heap.size,0,2,_,rfl,h,fun j u B=>?_⟩;rw[Nat.zero_add,World.cell?_alloc_new];have J:([cs]++[q]).flatten=arr.toList:=by rw[E];simp
 rw[J] at B;simpa using B
theorem yD{fr:List Nat}{cr:Array Value}(r:aW d)(w:World)(hr:Rd.rd fr w cr.toList r)(kS:bF r≤1048576):
  Calls Tryz.prog 138 #[.agg cr] w fun e w'=>∃v fq,e=.returned v∧SlR (α:=GE (d+1)) fq w' v (nH r)∧Gr w w':=by
 obtain⟨i0,hi⟩:=info_parts Tryz.tC;have HZ:=Kz hi;clear hi;obtain⟨r0,r1,r2,r3,q,s,kT,kV,sW,kX,kZ,tJ,lq,lG,uh,rfl,rfl,-,ui,um,uq,qN,qR,lV,qV,qX,l5,rf,rq⟩:=KV hr;have mf:=lV.op3;have mh:=l5.op3;clear hr;have mZ:r0.size+r1.size+wtL ByteArray.size r2+wtL aU q+wtL aI s≤1048576:=kS;have uw:q.length≤1048576:=by have:=bT aU q;omega
 have uL:s.length≤1048576:=by have:=bT aI s;omega
 clear kS mZ;go_in;go_wp2_with fail;generalize hB:(w.alloc (.cells #[.string r0,.string r1,.slice kT r2.length kV,.bool r3,.slice kX q.length kZ,.slice lq s.length lG] 112))=B;have gB:Gr w B:=gb hB;obtain⟨uR,uW,uZ,ve,l6,l7⟩:=kb6 hB (w.heap.size) (.string r0) (.string r1) (.slice kT r2.length kV) (.bool r3) (.slice kX q.length kZ) (.slice lq s.length lG);have sB:B.heap.size=w.heap.size+1:=szB hB;clear hB;have u4:=l6 _ (gd:Gr B (B.alloc (.cells #[] 115)));have zu:=blk u4;clear u4 zu
 go_loopw [12,3] (fun H s3 wr=>∃(k:Nat) (fps:List (List Nat)),k≤q.length∧Gr B wr∧bE (α:=GE (d+1)) B 115 wr s3 fps (exE (q.take k))∧H=.int .i64 k) (fun H _ _=>q.length - (intOf H).toNat)
 case atStart=>exact⟨0,[],by omega,gd,bE.kF (α:=GE (d+1)) (w0:=B) (w:=B) 115 (Nat.le_refl _) (by omega),rfl⟩
 case round=>
  obtain⟨k,fps,hk,h,hown,rfl⟩:=hrel
  rename World=>W1
  have bD:=Kz h;have HO:=Kz hown;obtain⟨L,hL⟩:∃L:List (GE (d+1)),L=exE (q.take k):=⟨_,rfl⟩;have nz:L.length=k:=by rw[hL,I1,List.length_take];omega
  have vo:L.length≤1048576:=by omega
  clear nz;obtain⟨ra,rc,D⟩:=hown.form;rw[←hL] at D;subst D;have I:=Kz hL;have bL:=Kz (show∀b,(Value.slice ra L.length rc).ownBlock=some b→B.heap.size≤b from fun b hb=>(hown.base b hb).1);have y4:=l6 _ h;have y5:=l7 _ h;have nM:=blk y4;have E:=gB.trans h;have bH:=Kz E;clear h hown hL
  by_cases J:k<q.length
  ·skip
   obtain⟨b,off,rfl,nO⟩:=mf k J;obtain⟨vv,vB,K,O,T,U,X,Y,Z,bN,bV,rD,nP,cK,nS,mo,mq,cO,dz,dA,dC,dG,dL,dU,pV,p9,nZ,oh,oo,oq,ow,oz,oG,oH,oK,oL⟩:=KY lV J E;have l8:=Kz (show Rd.rd (α:=GE (d+1)) _ w [.int .i64 K,.int .i64 O,.int .i64 T,.int .i64 U,.string X,.string Y,.slice bN Z.length bV] ((K,O,T,U,X,Y,Z):aA d) from bJ K O T U X Y Z cO dz dA dC dG dL dU);have k0:(0:Int)≤(k:Int):=by omega
   have k1:(k:Int)<(q.length:Int):=by omega
   have iw:=zI1 k (by omega);have oN:=Kz (Rd.lt l8.o);have dW:=Kz (show∀(W:World) (g:Nat) (hg:g=W.heap.size) (hw:Gr w W),eT (α:=GE (d+1)) (W.alloc (.cells #[.int .i64 K,.int .i64 O,.int .i64 T,.int .i64 U,.string X,.string Y,.slice bN Z.length bV] 115)) (.slice (some ⟨g,0,none⟩) 1 1) [_] ([((K,O,T,U,X,Y,Z):aA d)]:List (GE (d+1))) from fun W g hg hw=>eT.one (α:=GE (d+1)) hg (Rd.gr l8.o (hw.trans gd)))
   have eH:=Kz (show exE (q.take (k+1))=L++([((K,O,T,U,X,Y,Z):aA d)]:List (GE (d+1))) by
    rw[Ht q J,I.o,←cK.o])
   clear E mo mq cO dz dA dC dG dL dU
   go_wp2_with (first|(at_builtin;refine bP (α:=GE (d+1)) (w0:=B) (tg bD) rfl _ _ 113 rfl 115 i0 _ _ Tryz.underlying113 HZ.o.1 HZ.o.2.1 HZ.o.2.2.1 HZ.o.2.2.2 rfl _ fps _ (by rfl) (HO.o.gr gd) _ [_] ([((K,O,T,U,X,Y,Z):aA d)]:List (GE (d+1))) (by rfl) (dW.o _ _ (by simp) (tg bH)) (fun b hb hm=>by have h1:=bL.o b hb;simp only[flatten_cons,List.flatten_nil,append_nil] at hm;have h2:=oN.o b hm;have h3:=gB.size;omega) (by rw[←I.o];show L.length+1≤maxLen;unfold maxLen;omega) (by rw[←I.o];show(L.length+1)*88≤_;omega) ?_;intro v3 w3 h1 h2 h3 h4;replace h1:=Kz h1;replace h4:=Kz h4;clear h2 h3))
   have bK:=eH.o;rw[I.o] at bK;have H5:=h1.o;rw[←bK] at H5;exact⟨⟨k+1,_,by omega,h4.o,H5,by go_num⟩,by simp[intOf];omega⟩
  ·obtain rfl:k=q.length:=by omega
   rw[take_length] at I;have fe:=HO.o;rw[take_length,←I.o] at fe;have ma:=Kz fe;clear fe;go_wp2_with fail
   go_loopw [25,3] (fun H s3 wr=>∃(k:Nat) (fps:List (List Nat)),k≤s.length∧Gr B wr∧bE (α:=GE (d+1)) B 115 wr s3 fps (L++exC (s.take k))∧H=.int .i64 k) (fun H _ _=>s.length - (intOf H).toNat)
   case atStart=>exact⟨0,fps,by omega,bD.o,by rw[List.take_zero];show bE _ _ _ _ _ (L++[]);rw[append_nil];exact ma.o,rfl⟩
   case round=>
    clear y4 y5 nM bD HO ma E bH bL;obtain⟨k,fps,hk,h,hown,rfl⟩:=hrel
    rename World=>W2
    have bD:=Kz h;have HO:=Kz hown;obtain⟨M,hM⟩:∃M:List (GE (d+1)),M=L++exC (s.take k):=⟨_,rfl⟩
    have vC:M.length≤3145728:=by
     rw[hM,List.length_append,I8,List.length_take];omega
    obtain⟨oV,oW,D⟩:=hown.form;rw[←hM] at D;subst D;have ae:=Kz hM;have bL:=Kz (show∀b,(Value.slice oV M.length oW).ownBlock=some b→B.heap.size≤b from fun b hb=>(hown.base b hb).1);have y5:=l7 _ h;have vD:=blk y5;have E:=gB.trans h;have bH:=Kz E;clear h hown hM
    by_cases J:k<s.length
    ·skip
     obtain⟨b,off,rfl,nO⟩:=mh k J;obtain⟨q0,q1,ah,ai,aj,au,ax,ay,aL,aN,aS,aV,aZ,bg,bq,bB,fu,fw,rE,fA,fK,rR,nP,cK,nS,o9,pG,gm,gD,gF,gH,gM,gT,ik,qo,qD,jN,jX,j4,j5,ku,ky,kz,qE,qG,nZ,oh,oo,oq,ow,oz,oG,oH,oK,vE,rT,sw,sG,sH,sN,sO,oL⟩:=KW l5 J E;have kE:=Kz (show Rd.rd (α:=GE (d+1)) _ w [.int .i64 ah,.int .i64 ai,.int .i64 aj,.int .i64 au,.string ax,.string ay,.slice fu aL.length fw] ((ah,ai,aj,au,ax,ay,aL):aA d) from bJ ah ai aj au ax ay aL gm gD gF gH gM gT ik);have kL:=Kz (show Rd.rd (α:=GE (d+1)) _ w [.int .i64 aN,.int .i64 aS,.int .i64 aV,.int .i64 aZ,.string bg,.string bq,.slice fA bB.length fK] ((aN,aS,aV,aZ,bg,bq,bB):aA d) from bJ aN aS aV aZ bg bq bB jN jX j4 j5 ku ky kz);have k0:(0:Int)≤(k:Int):=by omega
     have k1:(k:Int)<(s.length:Int):=by omega
     have iw:=zI1 k (by omega);have mr:=Kz (Rd.lt kE.o);have mH:=Kz (Rd.lt kL.o);have dW:=Kz (show∀(W:World) (g:Nat) (hg:g=W.heap.size) (hw:Gr w W),eT (α:=GE (d+1)) (W.alloc (.cells #[.int .i64 ah,.int .i64 ai,.int .i64 aj,.int .i64 au,.string ax,.string ay,.slice fu aL.length fw,.int .i64 aN,.int .i64 aS,.int .i64 aV,.int .i64 aZ,.string bg,.string bq,.slice fA bB.length fK] 115)) (.slice (some ⟨g,0,none⟩) 2 2) [_,_] ([((ah,ai,aj,au,ax,ay,aL):aA d),((aN,aS,aV,aZ,bg,bq,bB):aA d)]:List (GE (d+1))) from fun W g hg hw=>eT.two (α:=GE (d+1)) hg rfl (fun W2 h2=>Rd.gr kE.o (hw.trans h2)) (fun W2 h2=>Rd.gr kL.o (hw.trans h2)))
     have eH:=Kz (show L++exC (s.take (k+1))=M++([((ah,ai,aj,au,ax,ay,aL):aA d),((aN,aS,aV,aZ,bg,bq,bB):aA d)]:List (GE (d+1))) by
      rw[GL s J,ae.o,List.append_assoc,←cK.o])
     clear E o9 pG gm gD gF gH gM gT ik jN jX j4 j5 ku ky kz
     go_wp2_with (first|(at_builtin;refine bP (α:=GE (d+1)) (w0:=B) (tg bD) rfl _ _ 113 rfl 115 i0 _ _ Tryz.underlying113 HZ.o.1 HZ.o.2.1 HZ.o.2.2.1 HZ.o.2.2.2 rfl _ fps _ (by rfl) (HO.o.gr gd) _ [_,_] ([((ah,ai,aj,au,ax,ay,aL):aA d),((aN,aS,aV,aZ,bg,bq,bB):aA d)]:List (GE (d+1))) (by rfl) (dW.o _ _ (by simp) (tg bH)) (fun b hb hm=>by have h1:=bL.o b hb;have h3:=gB.size;rw[flatten_cons,flatten_cons,List.flatten_nil,append_nil,List.mem_append] at hm;exact hm.elim (fun hm=>by have h2:=mr.o b hm;omega) (fun hm=>by have h2:=mH.o b hm;omega)) (by rw[←ae.o];show M.length+2≤maxLen;unfold maxLen;omega) (by rw[←ae.o];show(M.length+2)*88≤_;omega) ?_;intro v3 w3 h1 h2 h3 h4;replace h1:=Kz h1;replace h4:=Kz h4;clear h2 h3))
     have bK:=eH.o;rw[ae.o] at bK;have H5:=h1.o;rw[←bK] at H5;exact⟨⟨k+1,_,by omega,h4.o,H5,by go_num⟩,by simp[intOf];omega⟩
    ·obtain rfl:k=s.length:=by omega
     rw[take_length] at ae;have kQ:=HO.o;rw[take_length,←ae.o] at kQ;obtain⟨fz,hz,-⟩:=kQ.slR (by unfold bn;omega);have pM:=Kz hz;have pR:=Kz (show nH (r0,r1,r2,r3,q,s)=M by rw[ae.o,I.o];rfl);clear kQ hz;go_wp2_with fail;go_ret;exact⟨_,fz,rfl,by rw[pR.o];exact pM.o,bH.o⟩
end Go.Proofs.YtdhighcpmcdmmaaGreat
