/- Contracts and laws towards ReadsOf, part 21 of 54. No condition. -/
import Derived.Test.YtleafadpfeibfaaGreatRx16
import Derived.Test.YtleafadpfeibfaaGreatRx18
import Derived.Test.YtleafadpfeibfaaGreatRx17
import Derived.Sort.Statements
import Derived.Laws.Cover1
set_option maxHeartbeats 32000000
set_option maxRecDepth 10000
set_option linter.unusedVariables false
set_option linter.unusedSimpArgs false
namespace Go.Proofs.YtleafadpfeibfaaGreat
open Go.RowKit
open _root_.List (getElem_mem)
variable{d:Nat}
variable{N:Nat}{t:TypeId}
def JY(g:af d)(t:List aT)(k:Nat):Prop:=∃h:k<t.length,∃r,dJ g.2 t[k].2.2.2.2.1=some r∧t[k].2.2.2.2.2.length=r.2.2.1.length∧∀c∈t[k].2.2.2.2.2,0≤c∧c<t.length
theorem Fs{w:Int→Int→ByteArray→Int}{P:Nat→Prop}{N:Int}(hw:∀a k s,0≤w a k s→0≤a∧a<w a k s∧w a k s≤N∧∀j:Nat,a≤(j:Int)→(j:Int)<w a k s→P j):
  ∀(cs:List Int) (ss:List ByteArray) (k a:Int),cs.length=ss.length→a≤N→0≤KD w cs ss k a→
   a≤KD w cs ss k a∧KD w cs ss k a≤N∧(∀j:Nat,a≤(j:Int)→(j:Int)<KD w cs ss k a→P j)∧∀c∈cs,0≤c∧c<N:=by
 intro cs
 induction cs with
 |nil=>
  intro ss k a q D h
  cases ss with
  |cons s ss=>simp at q
  |nil=>
   have e:KD w [] [] k a=a:=by unfold KD;rfl
   rw[e];exact⟨by omega,D,fun j h1 B=>by omega,by simp⟩
 |cons c cs I=>
  intro ss k a q D h
  cases ss with
  |nil=>simp at q
  |cons s ss=>
   have e:KD w (c::cs) (s::ss) k a=if c≠a then -1 else if w a k s<0 then -1 else KD w cs ss (k+1) (w a k s):=by
    conv=>lhs;unfold KD
   rw[e] at h ⊢
   by_cases h1:c≠a
   ·rw[if_pos h1] at h;omega
   ·rw[if_neg h1] at h ⊢
    by_cases B:w a k s<0
    ·rw[if_pos B] at h;omega
    ·rw[if_neg B] at h ⊢
     obtain⟨V,X,J,K⟩:=hw a k s (by omega);obtain⟨i1,i2,i3,i4⟩:=I ss (k+1) (w a k s) (by simpa using q) J h;refine⟨by omega,i2,fun j O T=>?_,fun z hz=>?_⟩
     ·by_cases U:(j:Int)<w a k s
      ·exact K j O U
      ·exact i3 j (by omega) T
     ·rcases List.mem_cons.1 hz with rfl|hz
      ·have Y:z=a:=by omega
       exact⟨by omega,by omega⟩
      ·exact i4 z hz
theorem H9(g:af d)(t:List aT):∀(f:Nat) (i parent place:Int) (sym:ByteArray),0≤zK g t f i parent place sym→
  0≤i∧i<zK g t f i parent place sym∧zK g t f i parent place sym≤t.length∧∀j:Nat,i≤(j:Int)→(j:Int)<zK g t f i parent place sym→JY g t j:=by
 intro f
 induction f with
 |zero=>intro i parent place sym h;simp[zK] at h
 |succ f q=>
  intro i parent place sym h
  rw[zK] at h ⊢
  cases hn:nth t i with
  |none=>rw[hn] at h;simp at h
  |some n=>
   rw[hn] at h;simp only at h ⊢
   cases hr:dJ g.2 n.2.2.2.2.1 with
   |none=>rw[hr] at h;simp at h
   |some r=>
    rw[hr] at h;simp only at h ⊢
    by_cases hc:r.2.1=sym∧n.2.1=parent∧n.2.2.1=place∧n.2.2.2.2.2.length=r.2.2.1.length∧nL n.2.2.2.1 r.2.2.2.1=true
    ·rw[if_pos hc] at h ⊢
     have hi:0≤i∧i<t.length:=by
      by_cases hi:i<0∨(t.length:Int) - 1<i
      ·rw[jY hi] at hn;cases hn
      ·omega
     obtain⟨m,rfl⟩:∃m:Nat,i=m:=⟨i.toNat,by omega⟩;have hm:m<t.length:=by omega
     rw[gG hm] at hn;obtain rfl:=Option.some.inj hn;obtain⟨O,B,D,I⟩:=Fs (w:=fun at_ k s=>zK g t f at_ (m:Int) k s) (N:=t.length) (fun a k s=>q a (m:Int) k s) t[m].2.2.2.2.2 r.2.2.1 1 ((m:Int)+1) hc.2.2.2.1 (by omega) h;refine⟨by omega,by omega,B,fun j T J=>?_⟩
     by_cases K:j=m
     ·subst K
      exact⟨hm,r,hr,hc.2.2.2.1,I⟩
     ·exact D j (by omega) J
    ·rw[if_neg hc] at h;omega
theorem qA{g:af d}{t:List aT}(h:fP g t=true){k:Nat}(hk:k<t.length):JY g t k:=by
 obtain⟨h1,D,q⟩:=jv.1 h;obtain⟨-,-,-,B⟩:=H9 g t (t.length+1) 0 (-1) 0 (zB g t 0) (by omega);exact B k (by omega) (by rw[q];omega)
theorem A9(x:Int)(w:World):Calls Tryz.prog 289 #[.int .i64 x] w fun e w'=>e=.returned (.bool false)∧w'=w:=by
 go_in;go_wp2_with fail;go_ret;exact⟨by simp,rfl⟩
theorem Bj(x:ByteArray)(w:World):Calls Tryz.prog 290 #[.string x] w fun e w'=>e=.returned (.bool false)∧w'=w:=by
 go_in;go_wp2_with fail;go_ret;exact⟨by simp,rfl⟩
def sM(x y:Int):Int:=if x<y then -1 else if y<x then 1 else 0
theorem xO(x y:Int)(w:World):Calls Tryz.prog 269 #[.int .i64 x,.int .i64 y] w fun e w'=>e=.returned (.int .i64 (sM x y))∧w'=w:=by
 go_in
 go_wp2_with (go_at_call 289;refine(A9 _ _).mono ?_;rintro e w' ⟨rfl,hw⟩;rw[hw])
 all_goals(go_ret;refine⟨?_,rfl⟩;unfold sM;(repeat' split)<;>first|rfl|(exfalso;omega))
def tN(x y:ByteArray):Int:=if Op.bytesLess x.toList y.toList=true then -1 else if (!(Op.bytesLess x.toList y.toList||x.toList==y.toList))=true then 1 else 0
theorem xN(x y:ByteArray)(w:World):Calls Tryz.prog 270 #[.string x,.string y] w fun e w'=>e=.returned (.int .i64 (tN x y))∧w'=w:=by
 go_in
 go_wp2_with (go_at_call 290;refine(Bj _ _).mono ?_;rintro e w' ⟨rfl,hw⟩;rw[hw])
 all_goals(go_ret;refine⟨?_,rfl⟩;unfold tN;simp[*])
def wJ(x y:Int):Int:=if x≠0 then x else y
theorem FN(x y:Int)(g c:Nat)(w:World)(D:w.cell? ⟨g,0,none⟩=some (.int .i64 x))(h1:w.cell? ⟨g,1,none⟩=some (.int .i64 y)):Calls Tryz.prog 268 #[.slice (some ⟨g,0,none⟩) 2 c] w fun e w'=>e=.returned (.int .i64 (wJ x y))∧w'=w:=by
 have hb:=blk D;go_in;go_wp2_with fail
 by_cases B:x=0
 ·by_cases I:y=0
  ·go_loopw [8,5] (fun h q wr=>∃k:Nat,k≤2∧wr=w∧h=.int .i64 k) (fun h q _=>2 - (intOf h).toNat)
   case atStart=>exact⟨0,by omega,rfl,rfl⟩
   case round=>
    obtain⟨k,hk,rfl,rfl⟩:=hrel
    match k,hk with
    |0,_=>
     go_wp2_with fail;exact⟨⟨1,by omega,by simp,by go_num⟩,by simp[intOf]⟩
    |1,_=>
     go_wp2_with fail;exact⟨⟨2,by omega,by simp,by go_num⟩,by simp[intOf]⟩
    |2,_=>
     go_wp2_with fail;go_ret;exact⟨aC (by unfold wJ;simp[B,I]),rfl⟩
  ·go_loopw [8,5] (fun h q wr=>∃k:Nat,k≤1∧wr=w∧h=.int .i64 k) (fun h q _=>2 - (intOf h).toNat)
   case atStart=>exact⟨0,by omega,rfl,rfl⟩
   case round=>
    obtain⟨k,hk,rfl,rfl⟩:=hrel
    match k,hk with
    |0,_=>
     go_wp2_with fail;exact⟨⟨1,by omega,by simp,by go_num⟩,by simp[intOf]⟩
    |1,_=>
     go_wp2_with fail;go_ret;exact⟨aC (by unfold wJ;simp[B]),rfl⟩
 ·go_loopw [8,5] (fun h q wr=>∃k:Nat,k≤0∧wr=w∧h=.int .i64 k) (fun h q _=>2 - (intOf h).toNat)
  case atStart=>exact⟨0,by omega,rfl,rfl⟩
  case round=>
   obtain⟨k,hk,rfl,rfl⟩:=hrel;obtain rfl:k=0:=by omega
   go_wp2_with fail;go_ret;exact⟨aC (by unfold wJ;simp[B]),rfl⟩
def sI(x y:ag):Int:=wJ (sM x.1 y.1) (tN x.2 y.2)
theorem xh(x y:ag)(w:World):Qz 251 #[.agg #[.int .i64 x.1,.string x.2],.agg #[.int .i64 y.1,.string y.2]] w (.int .i64 (sI x y)):=by
 obtain⟨q,D⟩:=x;obtain⟨I,J⟩:=y
 show Qz 251 #[.agg #[.int .i64 q,.string D],.agg #[.int .i64 I,.string J]] w (.int .i64 (wJ (sM q I) (tN D J)))
 obtain⟨A,T⟩:=nm (sM q I);obtain⟨C,U⟩:=nm (tN D J);have V:=Kz (show∀W,Calls Tryz.prog 269 #[.int .i64 q,.int .i64 I] W fun e w'=>e=.returned (.int .i64 A)∧w'=W from fun W=>by rw[T];exact xO q I W);have X:=Kz (show∀W,Calls Tryz.prog 270 #[.string D,.string J] W fun e w'=>e=.returned (.int .i64 C)∧w'=W from fun W=>by rw[U];exact xN D J W);rw[←T,←U];clear T U;delta Qz;go_in;go_wp2_with fail;generalize O:((w.alloc (.cells #[.int .i64 q,.string D] 181)).alloc (.cells #[.int .i64 I,.string J] 181))=B;have Y:Gr w B:=gb O;obtain⟨Z,ae⟩:=kb2 O (w.heap.size) (.int .i64 q) (.string D);obtain⟨ah,ai⟩:=kb2 O (w.heap.size+1) (.int .i64 I) (.string J);have sB:B.heap.size=w.heap.size+2:=szB O;clear O;refine eB (fun w'=>Gr B w') 12 (by kernel_rfl) (Gr.drew (Gr.refl _)) (fun hU=>?_);refine aN 0 ?_;refine aN 2 ?_;refine aN 5 ?_;refine aN 7 ?_;refine aN 1 ?_;refine aN 3 ?_;refine aN 6 ?_;refine aN 8 ?_;refine dw [4] ?_;refine(bf.cons rfl (fun K h=>?_) bf.nil);go_simp
 go_at_call 269
 refine(V.o _).mono ?_;rintro e w5 ⟨rfl,rfl⟩;refine h.out _ _ gd (fun aj=>?_);clear h K
 try simp only[Act.put,uq1,uq2,uq3]
 refine dw [9] ?_
 refine(bf.cons rfl (fun K h=>?_) bf.nil);go_simp
 go_at_call 270
 refine(X.o _).mono ?_;rintro e w6 ⟨rfl,rfl⟩;refine h.out _ _ gd (fun ak=>?_);clear h K
 try simp only[Act.put,uq1,uq2,uq3]
 refine dw [10] ?_
 refine(bf.cons rfl (fun K h=>?_) bf.nil);go_simp;refine h.out _ _ gd (fun au=>?_);clear h K
 try simp only[Act.put,uq1,uq2,uq3]
 refine dw [11] ?_
 refine(bf.cons rfl (fun K h=>?_) bf.nil);go_simp
 go_at_call 268
 refine(FN A C _ _ _ ?_ ?_).mono ?_
 ·exact Gr.keep (Gr.drew (Gr.refl _)) (aJ (by omega) rfl)
 ·exact Gr.keep (Gr.drew (Gr.refl _)) (aJ (by omega) rfl)
 rintro e w7 ⟨rfl,rfl⟩;refine h.out _ _ gd (fun ax=>?_);clear h K
 try simp only[Act.put,uq1,uq2,uq3]
 refine dw [12] ?_
 refine bf.last rfl (fun K h=>?_)
 go_simp;refine h.out _ _ ?_;clear h K
 try simp only[Act.put,uq1,uq2,uq3]
 refine fF (by kernel_rfl) ?_ _
 go_wp2_with fail;go_ret;exact⟨rfl,Y.trans gd⟩
def gZ(N:Nat)(α:Type)[Rd α](P:Program)(t:TypeId):Prop:=
 P.cellsOf t=Rd.n α∧∀{H:Type} (enc:TypeId×Value→H) (w:World) (fuel:Nat) (cs:List Value) (d:DataW H) (h:List MemPlace),fuel≤N→
  DataW.trod enc P w 0 (fun _=>true) true fuel t cs=some (d,h)→(∀n∈d.weights P t,n≤reachBytes)→w.noneFrozen h→∃fp x,Rd.rd (α:=α) fp w cs x
theorem lh.toN{α:Type}[Rd α]{P:Program}(N:Nat)(h:lh α P t):gZ N α P t:=
 ⟨h.1,fun enc w fuel cs d q _ h1 B D=>h.2 enc w fuel cs d q h1 B D⟩
theorem gZ.less{α:Type}[Rd α]{P:Program}(h:gZ (N+1) α P t):gZ N α P t:=
 ⟨h.1,fun enc w fuel cs d q I h1 B D=>h.2 enc w fuel cs d q (by omega) h1 B D⟩
theorem lv{α:Type}[Rd α]{P:Program}{e:TypeId}(ht:P.underlying t=some (.slice e))(hc:P.cellsOf t=1)(he:gZ N α P e)(Y:decide (1≤P.bytesOf e)=true):gZ (N+1) (List α) P t:=by
 have hb:=of_decide_eq_true Y;obtain⟨hn,he⟩:=he;refine⟨hc,fun{H} enc w fuel cs d ps hN h V hfz=>?_⟩;rcases DataW.trod_slice ht h with⟨rfl,K⟩|⟨a,len,cap,elems,rest,n,ak,rfl,K,_,Z,hm,hlen,ae,ah,_⟩
 ·exact⟨[],[],_,rfl,SlR.nil w⟩
 ·have au:=(ah rfl).1
  simp only[Prod.mk.injEq] at K;obtain⟨K,ai⟩:=K;subst K ai
  have O:cap≤bn:=by
   have:=V ((elems.length+rest.length)*P.bytesOf e) (by simp[DataW.weights,ht]);have X:elems.length+rest.length=cap:=by omega
   rw[X] at this;have h2:cap*1≤cap*P.bytesOf e:=Nat.mul_le_mul_left _ hb;have h3:reachBytes=bn:=by decide
   omega
  have each:∀i,i<len→∃b off q fq x,a.add (i*P.cellsOf e)=⟨b,off,none⟩∧jP w b off q∧Rd.rd (α:=α) fq w q x:=by
   intro i hi
   have hx:=ae i hi;have I:i<elems.length:=by omega
   rw[List.getElem?_eq_getElem I] at hx;obtain⟨q,h1,h2⟩:=Option.bind_eq_some_iff.1 hx;obtain⟨b,off,T,D,_⟩:=BO h1 (by rw[hn];exact Rd.pos)
   obtain⟨fq,x,hr⟩:=he enc w n q (elems[i]).1 (elems[i]).2 (by omega) h2 (fun k hk=>V k (by
    simp only[DataW.weights,ht,List.mem_cons,List.mem_append];exact .inr (.inl (lL (List.mem_map_of_mem (getElem_mem I)) k hk))))
    (fun b o hm=>hfz b o (List.mem_append_right _ (List.mem_flatMap.2 ⟨_,List.mem_append_left _ (getElem_mem I),hm⟩)))
   exact⟨b,off,q,fq,x,T,D,hr⟩
  by_cases h0:len=0
  ·subst h0
   exact⟨[],[],_,rfl,some a,cap,rfl,by simp,by simp,.inl ⟨rfl,rfl⟩⟩
  ·obtain⟨J,B,_,_,x0,aj,_,_⟩:=each 0 (by omega)
   have ea:a=⟨J,B,none⟩:=by simpa[Addr.add] using aj
   subst ea
   have U:∀i,∃y:List Nat×α,i<len→∃q,jP w J (B+i*Rd.n α) q∧Rd.rd y.1 w q y.2:=by
    intro i
    by_cases hi:i<len
    ·obtain⟨b,off,q,fq,x,T,D,hr⟩:=each i hi
     refine⟨(fq,x),fun _=>⟨q,?_,hr⟩⟩
     have e:(⟨J,B,none⟩:Addr).add (i*P.cellsOf e)=⟨J,B+i*P.cellsOf e,none⟩:=by
      unfold Addr.add
      split
      ·rename_i e;rw[e];rfl
      ·rfl
     rw[e] at T;injection T with X e2;subst X e2
     rwa [hn] at D
    ·exact⟨([],x0),fun h=>absurd h hi⟩
   obtain⟨f,hf⟩:=Classical.axiomOfChoice U;refine⟨_,(List.range len).map fun i=>(f i).2,_,rfl,some ⟨J,B,none⟩,cap,by simp,by simpa using Z,(by have this:len≤bn:=Nat.le_trans Z O;simpa using this),.inr ⟨J,B,(List.range len).map fun i=>(f i).1,by simp[h0],rfl,rfl,by simp,fun j hj=>hfz _ _ (List.mem_append_left _ ?_),fun i hi I=>?_⟩⟩
   ·simp only[List.length_map,List.length_range] at hj
    refine List.mem_map.2 ⟨j,List.mem_range.2 ?_,rfl⟩
    rw[hn,hlen];exact Nat.lt_of_lt_of_le hj (Nat.mul_le_mul_right _ (by omega))
   ·simp only[List.length_map,List.length_range] at hi
    obtain⟨q,D,hr⟩:=hf i hi;exact⟨q,D,by simpa using hr⟩
structure SegN(N:Nat)(α:Type)[Rd α](P:Program)(off:Nat)(fs:List Field):Prop where
 o:∀(H:Type) (enc:TypeId×Value→H) (w:World) (cs:List Value),cs.length=off+Rd.n α→
  (∀f∈fs,∃fuel d ps,fuel≤N∧DataW.trod enc P w 0 (fun _=>true) true fuel f.type ((cs.drop f.offset).take (P.cellsOf f.type))=some (d,ps)∧(∀n∈d.weights P f.type,n≤reachBytes)∧w.noneFrozen ps)→
  ∃fp x,Rd.rd (α:=α) fp w (cs.drop off) x
theorem nW{α:Type}[Rd α]{P:Program}{off:Nat}{f:Field}(q:gZ N α P f.type)(D:f.offset=off):SegN N α P off [f]:=by
 refine⟨fun H enc w cs K I=>?_⟩;obtain⟨fuel,d,J,B,h,hw,hz⟩:=I f (by simp);rw[D,q.1,List.take_of_length_le (by simp;omega)] at h;exact q.2 enc w fuel _ d J B h hw hz
theorem fG{α β:Type}[Rd α][Rd β]{P:Program}{off:Nat}{f:Field}{q:List Field}(B:gZ N α P f.type)(J:f.offset=off)(hs:SegN N β P (off+Rd.n α) q):SegN N (α×β) P off (f::q):=by
 refine⟨fun H enc w cs U D=>?_⟩;obtain⟨fuel,d,K,I,h,hw,hz⟩:=D f (by simp);rw[J,B.1] at h;obtain⟨f1,x,h1⟩:=B.2 enc w fuel _ d K I h hw hz;have T:Rd.n (α×β)=Rd.n α+Rd.n β:=rfl;obtain⟨f2,y,O⟩:=hs.o H enc w cs (by omega) (fun g hg=>D g (List.mem_cons_of_mem _ hg));refine⟨f1++f2,(x,y),_,_,f1,f2,?_,rfl,h1,O⟩;rw[←List.drop_drop,List.take_append_drop]
theorem jK{α:Type}[Rd α]{P:Program}{q:Array Field}(J:Nat)(ht:P.underlying t=some (.struct q))(hn:Rd.n α=J)(K:P.cellsOf t=J)(hs:SegN N α P 0 q.toList):gZ (N+1) α P t:=by
 have hc:P.cellsOf t=Rd.n α:=K.trans hn.symm;refine⟨hc,fun{H} enc w fuel cs d ps hN h hwt hfz=>?_⟩;obtain⟨xs,n,V,D,X,hlen,T⟩:=DataW.trod_struct ht h;simp only[Prod.mk.injEq] at D;obtain⟨D,O⟩:=D;subst D O
 have:=hs.o H enc w cs (by omega) (fun f U=>by
  obtain⟨i,hi,rfl⟩:=List.mem_iff_getElem.1 U;have I:i<q.size:=by simpa using hi
  have B:i<xs.length:=by omega
  have h1:=T i q[i] (by simp[I]);rw[List.getElem?_eq_getElem B] at h1;refine⟨n,(xs[i]).1,(xs[i]).2,by omega,by simpa using h1,fun k hk=>hwt k ?_,fun b o hm=>hfz b o (List.mem_flatMap.2 ⟨_,getElem_mem B,hm⟩)⟩;simp only[DataW.weights,ht];exact DataW.weights_mem_each (j:=i) (t:=q[i].type) (d:=(xs[i]).1) (by simp[I]) (by simp[List.getElem?_map,List.getElem?_eq_getElem B]) k (by simpa using hk))
 simpa using this
theorem Al(N:Nat):gZ N (List ByteArray) Tryz.prog 108:=
 (kN Tryz.underlying108 (by kernel_rfl) (eP Tryz.underlying9 (by kernel_rfl)) (by kernel_rfl)).toN N
theorem x8:lh aQ Tryz.prog 190:=by
 refine jD 4 Tryz.underlying190 rfl (by kernel_rfl) ?_
 refine jq ?_ rfl (jq ?_ rfl (jq ?_ rfl (oZ ?_ rfl)))
 ·exact(eP Tryz.underlying9 (by kernel_rfl))
 ·exact(gN Tryz.underlying3 (by kernel_rfl))
 ·exact(gN Tryz.underlying3 (by kernel_rfl))
 ·exact(wR Tryz.underlying4 (by kernel_rfl))
theorem Dq:lh bC Tryz.prog 106:=by
 refine jD 2 Tryz.underlying106 rfl (by kernel_rfl) ?_
 refine jq ?_ rfl (oZ ?_ rfl)
 ·exact(eP Tryz.underlying9 (by kernel_rfl))
 ·exact(kN Tryz.underlying104 (by kernel_rfl) x8 (by kernel_rfl))
theorem vJ:lh ag Tryz.prog 192:=by
 refine jD 2 Tryz.underlying192 rfl (by kernel_rfl) ?_
 refine jq ?_ rfl (oZ ?_ rfl)
 ·exact(gN Tryz.underlying3 (by kernel_rfl))
 ·exact(eP Tryz.underlying9 (by kernel_rfl))
theorem uS{d:Nat}(h:gZ d (GE d) Tryz.prog 195):gZ (d+1) (aA d) Tryz.prog 195:=by
 refine jK 7 Tryz.underlying195 rfl (by kernel_rfl) ?_
 refine fG ?_ rfl (fG ?_ rfl (fG ?_ rfl (fG ?_ rfl (fG ?_ rfl (fG ?_ rfl (nW ?_ rfl))))))
 ·exact(gN Tryz.underlying3 (by kernel_rfl)).toN _
 ·exact(gN Tryz.underlying3 (by kernel_rfl)).toN _
 ·exact(gN Tryz.underlying3 (by kernel_rfl)).toN _
 ·exact(gN Tryz.underlying3 (by kernel_rfl)).toN _
 ·exact(eP Tryz.underlying9 (by kernel_rfl)).toN _
 ·exact(eP Tryz.underlying9 (by kernel_rfl)).toN _
 ·exact(lv Tryz.underlying193 (by kernel_rfl) h (by kernel_rfl)).less
theorem Ff:(d:Nat)→gZ d (GE d) Tryz.prog 195
 |0=>⟨by show _=7;kernel_rfl,fun enc w fuel cs d q B h _ _=>by
   obtain rfl:fuel=0:=by omega
   simp[DataW.trod] at h⟩
 |d+1=>uS (Ff d)
theorem sZ(d:Nat):gZ d (aA d) Tryz.prog 195:=(uS (Ff d)).less
theorem yR(d:Nat):gZ d (aX d) Tryz.prog 197:=by
 refine gZ.less (jK 9 Tryz.underlying197 rfl (by kernel_rfl) ?_)
 refine fG ?_ rfl (nW ?_ rfl)
 ·exact vJ.toN _
 ·exact sZ d
theorem si(d:Nat):gZ d (aD d) Tryz.prog 200:=by
 refine gZ.less (jK 16 Tryz.underlying200 rfl (by kernel_rfl) ?_)
 refine fG ?_ rfl (fG ?_ rfl (fG ?_ rfl (nW ?_ rfl)))
 ·exact(eP Tryz.underlying9 (by kernel_rfl)).toN _
 ·exact(eP Tryz.underlying9 (by kernel_rfl)).toN _
 ·exact sZ d
 ·exact sZ d
theorem FH(d:Nat):gZ d (aW d) Tryz.prog 112:=by
 refine gZ.less (jK 6 Tryz.underlying112 rfl (by kernel_rfl) ?_)
 refine fG ?_ rfl (fG ?_ rfl (fG ?_ rfl (fG ?_ rfl (fG ?_ rfl (nW ?_ rfl)))))
 ·exact(eP Tryz.underlying9 (by kernel_rfl)).toN _
 ·exact(eP Tryz.underlying9 (by kernel_rfl)).toN _
 ·exact Al _
 ·exact(wR Tryz.underlying4 (by kernel_rfl)).toN _
 ·exact(lv Tryz.underlying109 (by kernel_rfl) (yR d) (by kernel_rfl)).less
 ·exact(lv Tryz.underlying110 (by kernel_rfl) (si d) (by kernel_rfl)).less
theorem yS(d:Nat):gZ d (af d) Tryz.prog 25:=by
 refine gZ.less (jK 2 Tryz.underlying25 rfl (by kernel_rfl) ?_)
 refine fG ?_ rfl (nW ?_ rfl)
 ·exact(kN Tryz.underlying22 (by kernel_rfl) Dq (by kernel_rfl)).toN _
 ·exact(lv Tryz.underlying23 (by kernel_rfl) (FH d) (by kernel_rfl)).less
theorem Bl:True∧∀{H:Type} (enc:TypeId×Value→H) (w:World) (fuel:Nat) (cs:List Value) (d:DataW H) (h:List MemPlace),
  DataW.trod enc Tryz.prog w 0 (fun _=>true) true fuel 25 cs=some (d,h)→(∀n∈d.weights Tryz.prog 25,n≤reachBytes)→w.noneFrozen h→∃fp x,Rd.rd (α:=af fuel) fp w cs x:=
 ⟨trivial,fun enc w fuel cs d h h1 q B=>(yS fuel).2 enc w fuel cs d h (Nat.le_refl _) h1 q B⟩
theorem yX:lh av Tryz.prog 30:=by
 refine jD 2 Tryz.underlying30 rfl (by kernel_rfl) ?_
 refine(jq ?_ rfl (oZ ?_ rfl))
 ·exact(gN Tryz.underlying3 (by kernel_rfl))
 ·exact(eP Tryz.underlying9 (by kernel_rfl))
end Go.Proofs.YtleafadpfeibfaaGreat
