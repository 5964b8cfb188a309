/- Contracts and laws towards ReadsOf, part 19 of 54. No condition. -/
import Derived.Deep.LoopGhost
import Derived.Test.YtdhighcpmcdmmaaGreatFx11
import Derived.Laws.CopyOwn
import Derived.Laws.Bits64b
set_option maxHeartbeats 32000000
set_option maxRecDepth 10000
set_option linter.unusedVariables false
set_option linter.unusedSimpArgs false
namespace Go.Proofs.YtdhighcpmcdmmaaGreat
open Go.RowKit
variable{d:Nat}
def JY(g:af d)(t:List aT)(k:Nat):Prop:=∃h:k<t.length,∃r,dJ g.2 t[k].2.2.2.2.1=some r∧t[k].2.2.2.2.2.length=r.2.2.1.length∧∀c∈t[k].2.2.2.2.2,0≤c∧c<t.length
theorem Fs{w:Int→Int→ByteArray→Int}{P:Nat→Prop}{N:Int}(hw:∀a k s,0≤w a k s→0≤a∧a<w a k s∧w a k s≤N∧∀j:Nat,a≤(j:Int)→(j:Int)<w a k s→P j):
  ∀(cs:List Int) (ss:List ByteArray) (k a:Int),cs.length=ss.length→a≤N→0≤KD w cs ss k a→
   a≤KD w cs ss k a∧KD w cs ss k a≤N∧(∀j:Nat,a≤(j:Int)→(j:Int)<KD w cs ss k a→P j)∧∀c∈cs,0≤c∧c<N:=by
 intro cs
 induction cs with
 |nil=>
  intro ss k a q H h
  cases ss with
  |cons s ss=>simp at q
  |nil=>
   have e:KD w [] [] k a=a:=by unfold KD;rfl
   rw[e];exact⟨by omega,H,fun j B D=>by omega,by simp⟩
 |cons c cs I=>
  intro ss k a q H h
  cases ss with
  |nil=>simp at q
  |cons s ss=>
   have e:KD w (c::cs) (s::ss) k a=if c≠a then -1 else if w a k s<0 then -1 else KD w cs ss (k+1) (w a k s):=by
    conv=>lhs;unfold KD
   rw[e] at h ⊢
   by_cases B:c≠a
   ·rw[if_pos B] at h;omega
   ·rw[if_neg B] at h ⊢
    by_cases D:w a k s<0
    ·rw[if_pos D] at h;omega
    ·rw[if_neg D] at h ⊢
     obtain⟨X,Y,J,K⟩:=hw a k s (by omega);obtain⟨i1,i2,i3,i4⟩:=I ss (k+1) (w a k s) (by simpa using q) J h;refine⟨by omega,i2,fun j O T=>?_,fun z E=>?_⟩
     ·by_cases U:(j:Int)<w a k s
      ·exact K j O U
      ·exact i3 j (by omega) T
     ·rcases List.mem_cons.1 E with rfl|E
      ·have Z:z=a:=by omega
       exact⟨by omega,by omega⟩
      ·exact i4 z E
theorem H9(g:af d)(t:List aT):∀(f:Nat) (i parent place:Int) (sym:ByteArray),0≤zK g t f i parent place sym→
  0≤i∧i<zK g t f i parent place sym∧zK g t f i parent place sym≤t.length∧∀j:Nat,i≤(j:Int)→(j:Int)<zK g t f i parent place sym→JY g t j:=by
 intro f
 induction f with
 |zero=>intro i parent place sym h;simp[zK] at h
 |succ f E=>
  intro i parent place sym h
  rw[zK] at h ⊢
  cases q:nth t i with
  |none=>rw[q] at h;simp at h
  |some n=>
   rw[q] at h;simp only at h ⊢
   cases B:dJ g.2 n.2.2.2.2.1 with
   |none=>rw[B] at h;simp at h
   |some r=>
    rw[B] at h;simp only at h ⊢
    by_cases hc:r.2.1=sym∧n.2.1=parent∧n.2.2.1=place∧n.2.2.2.2.2.length=r.2.2.1.length∧nL n.2.2.2.1 r.2.2.2.1=true
    ·rw[if_pos hc] at h ⊢
     have D:0≤i∧i<t.length:=by
      by_cases D:i<0∨(t.length:Int) - 1<i
      ·rw[jY D] at q;cases q
      ·omega
     obtain⟨m,rfl⟩:∃m:Nat,i=m:=⟨i.toNat,by omega⟩;have hm:m<t.length:=by omega
     rw[gG hm] at q;obtain rfl:=Option.some.inj q;obtain⟨T,H,I,J⟩:=Fs (w:=fun at_ k s=>zK g t f at_ (m:Int) k s) (N:=t.length) (fun a k s=>E a (m:Int) k s) t[m].2.2.2.2.2 r.2.2.1 1 ((m:Int)+1) hc.2.2.2.1 (by omega) h;refine⟨by omega,by omega,H,fun j U K=>?_⟩
     by_cases O:j=m
     ·subst O
      exact⟨hm,r,B,hc.2.2.2.1,J⟩
     ·exact I j (by omega) K
    ·rw[if_neg hc] at h;omega
theorem qA{g:af d}{t:List aT}(h:fP g t=true){k:Nat}(B:k<t.length):JY g t k:=by
 obtain⟨D,E,q⟩:=jv.1 h;obtain⟨-,-,-,s⟩:=H9 g t (t.length+1) 0 (-1) 0 (zB g t 0) (by omega);exact s k (by omega) (by rw[q];omega)
structure TestEq{α:Type}[Rd α][DecidableEq α](w:World)(fid:Nat)(xs ys:List α):Prop where
 fn:∀args W,(callFunc fid args).run Tryz.prog W=.ok (.enter fid args) W
 calls:∀x∈xs,∀y∈ys,∀(W:World) (fp fq:List Nat) (cs ds:Array Value),Gr w W→Rd.rd fp W cs.toList x→Rd.rd fq W ds.toList y→Calls Tryz.prog fid #[.agg cs,.agg ds] W fun e w'=>e=.returned (.bool (decide (x=y)))∧Gr W w'
section
variable{P:Program}
end
theorem FO:lh aT Tryz.prog 101:=by
 refine jD 6 Tryz.underlying101 rfl (by kernel_rfl) ?_
 refine(jq ?_ rfl (jq ?_ rfl (jq ?_ rfl (jq ?_ rfl (jq ?_ rfl (oZ ?_ rfl))))))
 ·exact(gN Tryz.underlying3 (by kernel_rfl))
 ·exact(gN Tryz.underlying3 (by kernel_rfl))
 ·exact(gN Tryz.underlying3 (by kernel_rfl))
 ·exact(gN Tryz.underlying3 (by kernel_rfl))
 ·exact(eP Tryz.underlying9 (by kernel_rfl))
 ·exact(kN Tryz.underlying29 (by kernel_rfl) (gN Tryz.underlying3 (by kernel_rfl)) (by kernel_rfl))
theorem FE:lh fU Tryz.prog 28:=by
 refine jD 1 Tryz.underlying28 rfl (by kernel_rfl) ?_
 refine(oZ ?_ rfl)
 ·exact(kN Tryz.underlying26 (by kernel_rfl) FO (by kernel_rfl))
end Go.Proofs.YtdhighcpmcdmmaaGreat
