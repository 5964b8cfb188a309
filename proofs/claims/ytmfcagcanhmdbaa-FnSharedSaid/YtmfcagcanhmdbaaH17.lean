/- Contracts of the functions that measure, compare and copy: Rule, Rule*, Grammar. Made by mk_fam.py. No condition. -/
import Derived.Test.YtmfcagcanhmdbaaH15
import Derived.Test.YtmfcagcanhmdbaaH16
namespace Go.Proofs.Ytmfcagcanhmdbaa
open Go.RowKit
variable {d : Nat}

abbrev GRule (d : Nat) := ByteArray × ByteArray × List ByteArray × Bool × List (GEquation d) × List (GContribution d)
def wtRule (x : (GRule d)) : Nat := x.1.size + x.2.1.size + wtStringS x.2.2.1 + wtEquationS x.2.2.2.2.1 + wtContributionS x.2.2.2.2.2
instance decRule : DecidableEq (GRule d) := @instDecidableEqProd _ _ _ (@instDecidableEqProd _ _ _ (@instDecidableEqProd _ _ _ (@instDecidableEqProd _ _ _ (@instDecidableEqProd _ _ _ (inferInstance)))))

theorem rdRule_inv {fp : List Nat} {w : World} {cs : Array Value} (q0 : ByteArray) (q1 : ByteArray) (q2 : List ByteArray) (q3 : Bool) (q4 : List (GEquation d)) (q5 : List (GContribution d)) (h : Rd.rd (α := (GRule d)) fp w cs.toList (q0, q1, q2, q3, q4, q5)) :
  ∃ vq2 fq2 vq4 fq4 vq5 fq5, cs = #[.string q0, .string q1, vq2, .bool q3, vq4, vq5] ∧ fp = ([] ++ ([] ++ (fq2 ++ ([] ++ (fq4 ++ fq5))))) ∧ q0.size ≤ maxLen ∧ q1.size ≤ maxLen ∧ SlR fq2 w vq2 q2 ∧ SlR fq4 w vq4 q4 ∧ SlR fq5 w vq5 q5 := by
 generalize hcs : cs.toList = l at h
 obtain ⟨_, _, _, _, rfl, rfl, ⟨rfl, rfl, hq0⟩, ⟨_, _, _, _, rfl, rfl, ⟨rfl, rfl, hq1⟩, ⟨_, _, _, _, rfl, rfl, ⟨vq2, rfl, hq2⟩, ⟨_, _, _, _, rfl, rfl, ⟨rfl, rfl⟩, ⟨_, _, _, _, rfl, rfl, ⟨vq4, rfl, hq4⟩, ⟨vq5, rfl, hq5⟩⟩⟩⟩⟩⟩ := h
 exact ⟨_, _, _, _, _, _, Array.toList_inj.1 (by simpa using hcs), rfl, hq0, hq1, hq2, hq4, hq5⟩

theorem rdRule_shape {fp : List Nat} {w : World} {cs : Array Value} {x : (GRule d)} (h : Rd.rd (α := (GRule d)) fp w cs.toList x) :
  ∃ q0 q1 aq2 lq2 cq2 q3 aq4 lq4 cq4 aq5 lq5 cq5, cs = #[.string q0, .string q1, .slice aq2 lq2 cq2, .bool q3, .slice aq4 lq4 cq4, .slice aq5 lq5 cq5] := by
 obtain ⟨q0, q1, q2, q3, q4, q5⟩ := x
 obtain ⟨vq2, fq2, vq4, fq4, vq5, fq5, rfl, -, -, -, hq2, hq4, hq5⟩ := rdRule_inv q0 q1 q2 q3 q4 q5 h
 obtain ⟨aq2, cq2, rfl, -, -, -⟩ := hq2.open
 obtain ⟨aq4, cq4, rfl, -, -, -⟩ := hq4.open
 obtain ⟨aq5, cq5, rfl, -, -, -⟩ := hq5.open
 exact ⟨_, _, _, _, _, _, _, _, _, _, _, _, rfl⟩

theorem rdRule_mk {w : World} (q0 : ByteArray) (q1 : ByteArray) (q2 : List ByteArray) (q3 : Bool) (q4 : List (GEquation d)) (q5 : List (GContribution d)) {vq2 : Value} {fq2 : List Nat} {vq4 : Value} {fq4 : List Nat} {vq5 : Value} {fq5 : List Nat} (hq0 : q0.size ≤ maxLen) (hq1 : q1.size ≤ maxLen) (hq2 : SlR fq2 w vq2 q2) (hq4 : SlR fq4 w vq4 q4) (hq5 : SlR fq5 w vq5 q5) :
  Rd.rd (α := (GRule d)) (([] ++ ([] ++ (fq2 ++ ([] ++ (fq4 ++ fq5)))))) w [.string q0, .string q1, vq2, .bool q3, vq4, vq5] (q0, q1, q2, q3, q4, q5) := ⟨_, _, _, _, rfl, rfl, ⟨rfl, rfl, hq0⟩, ⟨_, _, _, _, rfl, rfl, ⟨rfl, rfl, hq1⟩, ⟨_, _, _, _, rfl, rfl, ⟨_, rfl, hq2⟩, ⟨_, _, _, _, rfl, rfl, ⟨rfl, rfl⟩, ⟨_, _, _, _, rfl, rfl, ⟨_, rfl, hq4⟩, ⟨_, rfl, hq5⟩⟩⟩⟩⟩⟩

def wtRuleS (xs : List (GRule d)) : Nat := wtL wtRule xs

abbrev GGrammar (d : Nat) := List GSymbol × List (GRule d)
def wtGrammar (x : (GGrammar d)) : Nat := wtSymbolS x.1 + wtRuleS x.2

theorem rdGrammar_inv {fp : List Nat} {w : World} {cs : Array Value} (q0 : List GSymbol) (q1 : List (GRule d)) (h : Rd.rd (α := (GGrammar d)) fp w cs.toList (q0, q1)) :
  ∃ vq0 fq0 vq1 fq1, cs = #[vq0, vq1] ∧ fp = (fq0 ++ fq1) ∧ SlR fq0 w vq0 q0 ∧ SlR fq1 w vq1 q1 := by
 generalize hcs : cs.toList = l at h
 obtain ⟨_, _, _, _, rfl, rfl, ⟨vq0, rfl, hq0⟩, ⟨vq1, rfl, hq1⟩⟩ := h
 exact ⟨_, _, _, _, Array.toList_inj.1 (by simpa using hcs), rfl, hq0, hq1⟩

theorem rdGrammar_mk {w : World} (q0 : List GSymbol) (q1 : List (GRule d)) {vq0 : Value} {fq0 : List Nat} {vq1 : Value} {fq1 : List Nat} (hq0 : SlR fq0 w vq0 q0) (hq1 : SlR fq1 w vq1 q1) :
  Rd.rd (α := (GGrammar d)) ((fq0 ++ fq1)) w [vq0, vq1] (q0, q1) := ⟨_, _, _, _, rfl, rfl, ⟨_, rfl, hq0⟩, ⟨_, rfl, hq1⟩⟩

end Go.Proofs.Ytmfcagcanhmdbaa
