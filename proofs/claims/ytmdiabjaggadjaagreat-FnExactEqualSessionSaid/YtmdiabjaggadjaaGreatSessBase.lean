/- The Session's reading. Made by mk_sess.py. No condition. -/
import Derived.Test.YtmdiabjaggadjaaGreatFamGram
import Derived.Test.YtmdiabjaggadjaaGreatFamTree
import Derived.Test.YtmdiabjaggadjaaGreatFamEntry
namespace Go.Proofs.YtmdiabjaggadjaaGreat
open Go.RowKit
variable {d : Nat}

abbrev GSession (d : Nat) := (GGrammar d) × GTree × GMemo × Int
def wtSession (x : (GSession d)) : Nat := wtGrammar x.1 + wtTree x.2.1 + wtMemo x.2.2.1
instance decSession : DecidableEq (GSession d) := @instDecidableEqProd _ _ _ (@instDecidableEqProd _ _ _ (@instDecidableEqProd _ _ _ (inferInstance)))

theorem rdSession_inv {fp : List Nat} {w : World} {cs : Array Value} (q00 : List GSymbol) (q01 : List (GRule d)) (q10 : List GNode) (q20 : List GEntry) (q21 : List GInstance) (q3 : Int) (h : Rd.rd (α := (GSession d)) fp w cs.toList ((q00, q01), q10, (q20, q21), q3)) :
    ∃ vq00 fq00 vq01 fq01 vq10 fq10 vq20 fq20 vq21 fq21, cs = #[vq00, vq01, vq10, vq20, vq21, .int .i64 q3] ∧ fp = ((fq00 ++ fq01) ++ (fq10 ++ ((fq20 ++ fq21) ++ []))) ∧ SlR fq00 w vq00 q00 ∧ SlR fq01 w vq01 q01 ∧ SlR fq10 w vq10 q10 ∧ SlR fq20 w vq20 q20 ∧ SlR fq21 w vq21 q21 ∧ (Lit.int .i64 q3).wf = true := by
  generalize hcs : cs.toList = l at h
  obtain ⟨cq0, _, gq0, _, rfl, rfl, Nq0, ⟨cq1, _, gq1, _, rfl, rfl, Nq1, ⟨cq2, _, gq2, _, rfl, rfl, Nq2, ⟨rfl, rfl, hq3⟩⟩⟩⟩ := h
  obtain ⟨vvq00, ffq00, vvq01, ffq01, hcN0, hfN0, hq00, hq01⟩ := rdGrammar_inv (cs := cq0.toArray) q00 q01 (by rw [List.toList_toArray]; exact Nq0)
  have eN0 : cq0 = [vvq00, vvq01] := by have := congrArg Array.toList hcN0; simpa using this
  rw [eN0] at hcs
  obtain ⟨vvq10, ffq10, hcN1, hfN1, hq10⟩ := rdTree_inv (cs := cq1.toArray) q10 (by rw [List.toList_toArray]; exact Nq1)
  have eN1 : cq1 = [vvq10] := by have := congrArg Array.toList hcN1; simpa using this
  rw [eN1] at hcs
  obtain ⟨vvq20, ffq20, vvq21, ffq21, hcN2, hfN2, hq20, hq21⟩ := rdMemo_inv (cs := cq2.toArray) q20 q21 (by rw [List.toList_toArray]; exact Nq2)
  have eN2 : cq2 = [vvq20, vvq21] := by have := congrArg Array.toList hcN2; simpa using this
  rw [eN2] at hcs
  exact ⟨_, _, _, _, _, _, _, _, _, _, Array.toList_inj.1 (by simpa using hcs), (by rw [hfN0, hfN1, hfN2]), hq00, hq01, hq10, hq20, hq21, hq3⟩

theorem rdSession_shape {fp : List Nat} {w : World} {cs : Array Value} {x : (GSession d)} (h : Rd.rd (α := (GSession d)) fp w cs.toList x) :
    ∃ aq00 lq00 cq00 aq01 lq01 cq01 aq10 lq10 cq10 aq20 lq20 cq20 aq21 lq21 cq21 q3, cs = #[.slice aq00 lq00 cq00, .slice aq01 lq01 cq01, .slice aq10 lq10 cq10, .slice aq20 lq20 cq20, .slice aq21 lq21 cq21, .int .i64 q3] := by
  obtain ⟨⟨q00, q01⟩, q10, ⟨q20, q21⟩, q3⟩ := x
  obtain ⟨vq00, fq00, vq01, fq01, vq10, fq10, vq20, fq20, vq21, fq21, rfl, -, hq00, hq01, hq10, hq20, hq21, -⟩ := rdSession_inv q00 q01 q10 q20 q21 q3 h
  obtain ⟨aq00, cq00, rfl, -, -, -⟩ := hq00.open
  obtain ⟨aq01, cq01, rfl, -, -, -⟩ := hq01.open
  obtain ⟨aq10, cq10, rfl, -, -, -⟩ := hq10.open
  obtain ⟨aq20, cq20, rfl, -, -, -⟩ := hq20.open
  obtain ⟨aq21, cq21, rfl, -, -, -⟩ := hq21.open
  exact ⟨_, _, _, _, _, _, _, _, _, _, _, _, _, _, _, _, rfl⟩

theorem rdSession_mk {w : World} (q00 : List GSymbol) (q01 : List (GRule d)) (q10 : List GNode) (q20 : List GEntry) (q21 : List GInstance) (q3 : Int) {vq00 : Value} {fq00 : List Nat} {vq01 : Value} {fq01 : List Nat} {vq10 : Value} {fq10 : List Nat} {vq20 : Value} {fq20 : List Nat} {vq21 : Value} {fq21 : List Nat} (hq00 : SlR fq00 w vq00 q00) (hq01 : SlR fq01 w vq01 q01) (hq10 : SlR fq10 w vq10 q10) (hq20 : SlR fq20 w vq20 q20) (hq21 : SlR fq21 w vq21 q21) (hq3 : (Lit.int .i64 q3).wf = true) :
    Rd.rd (α := (GSession d)) (((fq00 ++ fq01) ++ (fq10 ++ ((fq20 ++ fq21) ++ [])))) w [vq00, vq01, vq10, vq20, vq21, .int .i64 q3] ((q00, q01), q10, (q20, q21), q3) := ⟨_, _, _, _, rfl, rfl, ⟨_, _, _, _, rfl, rfl, ⟨_, rfl, hq00⟩, ⟨_, rfl, hq01⟩⟩, ⟨_, _, _, _, rfl, rfl, ⟨_, rfl, hq10⟩, ⟨_, _, _, _, rfl, rfl, ⟨_, _, _, _, rfl, rfl, ⟨_, rfl, hq20⟩, ⟨_, rfl, hq21⟩⟩, ⟨rfl, rfl, hq3⟩⟩⟩⟩

end Go.Proofs.YtmdiabjaggadjaaGreat
