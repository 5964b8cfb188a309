/- Contracts of the functions that measure, compare and copy: Expr. Made by mk_fam.py. No condition. -/
import Derived.Test.YtmfcagcanhmdbaaH13
namespace Go.Proofs.Ytmfcagcanhmdbaa
open Go.RowKit
set_option linter.unusedVariables false

def GE : Nat → Type
 | 0 => PEmpty
 | d + 1 => Int × Int × Int × Int × ByteArray × ByteArray × List (GE d)

instance rdGE : (d : Nat) → Rd (GE d)
 | 0 => { n := 7, pos := by omega, rd := fun _ _ _ x => PEmpty.elim x, len := fun {_ _ _ x} _ => PEmpty.elim x, lt := fun {_ _ _ x} _ => PEmpty.elim x, mono := fun {_ _ _ _ x} _ _ => PEmpty.elim x, one := fun {_ _ _ x} _ => PEmpty.elim x }
 | d + 1 => have := rdGE d; (inferInstance : Rd (Int × Int × Int × Int × ByteArray × ByteArray × List (GE d)))

instance decGE : (d : Nat) → DecidableEq (GE d)
 | 0 => fun x => PEmpty.elim x
 | d + 1 => have := decGE d; @instDecidableEqProd _ _ _ (@instDecidableEqProd _ _ _ (@instDecidableEqProd _ _ _ (@instDecidableEqProd _ _ _ (@instDecidableEqProd _ _ _ (@instDecidableEqProd _ _ _ (inferInstance))))))

variable {d : Nat}

abbrev GExpr (d : Nat) := Int × Int × Int × Int × ByteArray × ByteArray × List (GE d)

def wtE : (d : Nat) → GE d → Nat
 | 0, x => PEmpty.elim x
 | d + 1, x => (fun y : GExpr d => y.2.2.2.2.1.size + y.2.2.2.2.2.1.size + wtL (wtE d) y.2.2.2.2.2.2) x
def wtExprS (xs : List (GE d)) : Nat := wtL (wtE d) xs
def wtExpr (x : (GExpr d)) : Nat := x.2.2.2.2.1.size + x.2.2.2.2.2.1.size + wtExprS x.2.2.2.2.2.2
instance decExpr : DecidableEq (GExpr d) := @instDecidableEqProd _ _ _ (@instDecidableEqProd _ _ _ (@instDecidableEqProd _ _ _ (@instDecidableEqProd _ _ _ (@instDecidableEqProd _ _ _ (@instDecidableEqProd _ _ _ (inferInstance))))))

theorem rdExpr_inv {fp : List Nat} {w : World} {cs : Array Value} (q0 : Int) (q1 : Int) (q2 : Int) (q3 : Int) (q4 : ByteArray) (q5 : ByteArray) (q6 : List (GE d)) (h : Rd.rd (α := (GExpr d)) fp w cs.toList (q0, q1, q2, q3, q4, q5, q6)) :
  ∃ vq6 fq6, cs = #[.int .i64 q0, .int .i64 q1, .int .i64 q2, .int .i64 q3, .string q4, .string q5, vq6] ∧ fp = ([] ++ ([] ++ ([] ++ ([] ++ ([] ++ ([] ++ fq6)))))) ∧ (Lit.int .i64 q0).wf = true ∧ (Lit.int .i64 q1).wf = true ∧ (Lit.int .i64 q2).wf = true ∧ (Lit.int .i64 q3).wf = true ∧ q4.size ≤ maxLen ∧ q5.size ≤ maxLen ∧ SlR fq6 w vq6 q6 := by
 generalize hcs : cs.toList = l at h
 obtain ⟨_, _, _, _, rfl, rfl, ⟨rfl, rfl, hq0⟩, ⟨_, _, _, _, rfl, rfl, ⟨rfl, rfl, hq1⟩, ⟨_, _, _, _, rfl, rfl, ⟨rfl, rfl, hq2⟩, ⟨_, _, _, _, rfl, rfl, ⟨rfl, rfl, hq3⟩, ⟨_, _, _, _, rfl, rfl, ⟨rfl, rfl, hq4⟩, ⟨_, _, _, _, rfl, rfl, ⟨rfl, rfl, hq5⟩, ⟨vq6, rfl, hq6⟩⟩⟩⟩⟩⟩⟩ := h
 exact ⟨_, _, Array.toList_inj.1 (by simpa using hcs), rfl, hq0, hq1, hq2, hq3, hq4, hq5, hq6⟩

theorem rdExpr_shape {fp : List Nat} {w : World} {cs : Array Value} {x : (GExpr d)} (h : Rd.rd (α := (GExpr d)) fp w cs.toList x) :
  ∃ q0 q1 q2 q3 q4 q5 aq6 lq6 cq6, cs = #[.int .i64 q0, .int .i64 q1, .int .i64 q2, .int .i64 q3, .string q4, .string q5, .slice aq6 lq6 cq6] := by
 obtain ⟨q0, q1, q2, q3, q4, q5, q6⟩ := x
 obtain ⟨vq6, fq6, rfl, -, -, -, -, -, -, -, hq6⟩ := rdExpr_inv q0 q1 q2 q3 q4 q5 q6 h
 obtain ⟨aq6, cq6, rfl, -, -, -⟩ := hq6.open
 exact ⟨_, _, _, _, _, _, _, _, _, rfl⟩

theorem rdExpr_mk {w : World} (q0 : Int) (q1 : Int) (q2 : Int) (q3 : Int) (q4 : ByteArray) (q5 : ByteArray) (q6 : List (GE d)) {vq6 : Value} {fq6 : List Nat} (hq0 : (Lit.int .i64 q0).wf = true) (hq1 : (Lit.int .i64 q1).wf = true) (hq2 : (Lit.int .i64 q2).wf = true) (hq3 : (Lit.int .i64 q3).wf = true) (hq4 : q4.size ≤ maxLen) (hq5 : q5.size ≤ maxLen) (hq6 : SlR fq6 w vq6 q6) :
  Rd.rd (α := (GExpr d)) (([] ++ ([] ++ ([] ++ ([] ++ ([] ++ ([] ++ fq6))))))) w [.int .i64 q0, .int .i64 q1, .int .i64 q2, .int .i64 q3, .string q4, .string q5, vq6] (q0, q1, q2, q3, q4, q5, q6) := ⟨_, _, _, _, rfl, rfl, ⟨rfl, rfl, hq0⟩, ⟨_, _, _, _, rfl, rfl, ⟨rfl, rfl, hq1⟩, ⟨_, _, _, _, rfl, rfl, ⟨rfl, rfl, hq2⟩, ⟨_, _, _, _, rfl, rfl, ⟨rfl, rfl, hq3⟩, ⟨_, _, _, _, rfl, rfl, ⟨rfl, rfl, hq4⟩, ⟨_, _, _, _, rfl, rfl, ⟨rfl, rfl, hq5⟩, ⟨_, rfl, hq6⟩⟩⟩⟩⟩⟩⟩

end Go.Proofs.Ytmfcagcanhmdbaa
