/- Contracts of the functions that measure, compare and copy: Contribution, Contribution*. Made by mk_fam.py. No condition. -/
import Derived.Test.YtmfcagcanhmdbaaH14
namespace Go.Proofs.Ytmfcagcanhmdbaa
open Go.RowKit
variable {d : Nat}

abbrev GContribution (d : Nat) := ByteArray × ByteArray × (GExpr d) × (GExpr d)
def wtContribution (x : (GContribution d)) : Nat := x.1.size + x.2.1.size + wtExpr x.2.2.1 + wtExpr x.2.2.2
instance decContribution : DecidableEq (GContribution d) := @instDecidableEqProd _ _ _ (@instDecidableEqProd _ _ _ (@instDecidableEqProd _ _ _ (inferInstance)))

theorem rdContribution_inv {fp : List Nat} {w : World} {cs : Array Value} (q0 : ByteArray) (q1 : ByteArray) (q20 : Int) (q21 : Int) (q22 : Int) (q23 : Int) (q24 : ByteArray) (q25 : ByteArray) (q26 : List (GE d)) (q30 : Int) (q31 : Int) (q32 : Int) (q33 : Int) (q34 : ByteArray) (q35 : ByteArray) (q36 : List (GE d)) (h : Rd.rd (α := (GContribution d)) fp w cs.toList (q0, q1, (q20, q21, q22, q23, q24, q25, q26), (q30, q31, q32, q33, q34, q35, q36))) :
  ∃ vq26 fq26 vq36 fq36, cs = #[.string q0, .string q1, .int .i64 q20, .int .i64 q21, .int .i64 q22, .int .i64 q23, .string q24, .string q25, vq26, .int .i64 q30, .int .i64 q31, .int .i64 q32, .int .i64 q33, .string q34, .string q35, vq36] ∧ fp = ([] ++ ([] ++ (([] ++ ([] ++ ([] ++ ([] ++ ([] ++ ([] ++ fq26)))))) ++ ([] ++ ([] ++ ([] ++ ([] ++ ([] ++ ([] ++ fq36))))))))) ∧ q0.size ≤ maxLen ∧ q1.size ≤ maxLen ∧ (Lit.int .i64 q20).wf = true ∧ (Lit.int .i64 q21).wf = true ∧ (Lit.int .i64 q22).wf = true ∧ (Lit.int .i64 q23).wf = true ∧ q24.size ≤ maxLen ∧ q25.size ≤ maxLen ∧ SlR fq26 w vq26 q26 ∧ (Lit.int .i64 q30).wf = true ∧ (Lit.int .i64 q31).wf = true ∧ (Lit.int .i64 q32).wf = true ∧ (Lit.int .i64 q33).wf = true ∧ q34.size ≤ maxLen ∧ q35.size ≤ maxLen ∧ SlR fq36 w vq36 q36 := by
 generalize hcs : cs.toList = l at h
 obtain ⟨_, _, _, _, rfl, rfl, ⟨rfl, rfl, hq0⟩, ⟨_, _, _, _, rfl, rfl, ⟨rfl, rfl, hq1⟩, ⟨cq2, cq3, gq2, gq3, rfl, rfl, Nq2, Nq3⟩⟩⟩ := h
 obtain ⟨vvq26, ffq26, hcN2, hfN2, hq20, hq21, hq22, hq23, hq24, hq25, hq26⟩ := rdExpr_inv (cs := cq2.toArray) q20 q21 q22 q23 q24 q25 q26 (by rw [List.toList_toArray]; exact Nq2)
 have eN2 : cq2 = [.int .i64 q20, .int .i64 q21, .int .i64 q22, .int .i64 q23, .string q24, .string q25, vvq26] := by have := congrArg Array.toList hcN2; simpa using this
 rw [eN2] at hcs
 obtain ⟨vvq36, ffq36, hcN3, hfN3, hq30, hq31, hq32, hq33, hq34, hq35, hq36⟩ := rdExpr_inv (cs := cq3.toArray) q30 q31 q32 q33 q34 q35 q36 (by rw [List.toList_toArray]; exact Nq3)
 have eN3 : cq3 = [.int .i64 q30, .int .i64 q31, .int .i64 q32, .int .i64 q33, .string q34, .string q35, vvq36] := by have := congrArg Array.toList hcN3; simpa using this
 rw [eN3] at hcs
 exact ⟨_, _, _, _, Array.toList_inj.1 (by simpa using hcs), (by rw [hfN2, hfN3]), hq0, hq1, hq20, hq21, hq22, hq23, hq24, hq25, hq26, hq30, hq31, hq32, hq33, hq34, hq35, hq36⟩

def wtContributionS (xs : List (GContribution d)) : Nat := wtL wtContribution xs

end Go.Proofs.Ytmfcagcanhmdbaa
