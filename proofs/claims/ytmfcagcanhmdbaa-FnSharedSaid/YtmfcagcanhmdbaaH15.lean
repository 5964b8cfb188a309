/- Contracts of the functions that measure, compare and copy: Equation, Equation*. Made by mk_fam.py. No condition. -/
import Derived.Test.YtmfcagcanhmdbaaH14
namespace Go.Proofs.Ytmfcagcanhmdbaa
open Go.RowKit
variable {d : Nat}

abbrev GEquation (d : Nat) := GOccurrence × (GExpr d)
def wtEquation (x : (GEquation d)) : Nat := wtOccurrence x.1 + wtExpr x.2

theorem rdEquation_inv {fp : List Nat} {w : World} {cs : Array Value} (q00 : Int) (q01 : ByteArray) (q10 : Int) (q11 : Int) (q12 : Int) (q13 : Int) (q14 : ByteArray) (q15 : ByteArray) (q16 : List (GE d)) (h : Rd.rd (α := (GEquation d)) fp w cs.toList ((q00, q01), (q10, q11, q12, q13, q14, q15, q16))) :
  ∃ vq16 fq16, cs = #[.int .i64 q00, .string q01, .int .i64 q10, .int .i64 q11, .int .i64 q12, .int .i64 q13, .string q14, .string q15, vq16] ∧ fp = (([] ++ []) ++ ([] ++ ([] ++ ([] ++ ([] ++ ([] ++ ([] ++ fq16))))))) ∧ (Lit.int .i64 q00).wf = true ∧ q01.size ≤ maxLen ∧ (Lit.int .i64 q10).wf = true ∧ (Lit.int .i64 q11).wf = true ∧ (Lit.int .i64 q12).wf = true ∧ (Lit.int .i64 q13).wf = true ∧ q14.size ≤ maxLen ∧ q15.size ≤ maxLen ∧ SlR fq16 w vq16 q16 := by
 generalize hcs : cs.toList = l at h
 obtain ⟨_, cq1, _, gq1, rfl, rfl, ⟨_, _, _, _, rfl, rfl, ⟨rfl, rfl, hq00⟩, ⟨rfl, rfl, hq01⟩⟩, Nq1⟩ := h
 obtain ⟨vvq16, ffq16, hcN1, hfN1, hq10, hq11, hq12, hq13, hq14, hq15, hq16⟩ := rdExpr_inv (cs := cq1.toArray) q10 q11 q12 q13 q14 q15 q16 (by rw [List.toList_toArray]; exact Nq1)
 have eN1 : cq1 = [.int .i64 q10, .int .i64 q11, .int .i64 q12, .int .i64 q13, .string q14, .string q15, vvq16] := by have := congrArg Array.toList hcN1; simpa using this
 rw [eN1] at hcs
 exact ⟨_, _, Array.toList_inj.1 (by simpa using hcs), (by rw [hfN1]), hq00, hq01, hq10, hq11, hq12, hq13, hq14, hq15, hq16⟩

def wtEquationS (xs : List (GEquation d)) : Nat := wtL wtEquation xs

end Go.Proofs.Ytmfcagcanhmdbaa
