/- Contracts of the functions that measure, compare and copy: Attribute, Attribute*, Symbol, Symbol*, Occurrence. Made by mk_fam.py. No condition. -/
import Derived.Test.YtmfcagcanhmdbaaH12
namespace Go.Proofs.Ytmfcagcanhmdbaa
open Go.RowKit

abbrev GAttribute := ByteArray × Int × Int × Bool
def wtAttribute (x : GAttribute) : Nat := x.1.size
instance decAttribute : DecidableEq GAttribute := @instDecidableEqProd _ _ _ (@instDecidableEqProd _ _ _ (@instDecidableEqProd _ _ _ (inferInstance)))

theorem rdAttribute_inv {fp : List Nat} {w : World} {cs : Array Value} (q0 : ByteArray) (q1 : Int) (q2 : Int) (q3 : Bool) (h : Rd.rd (α := GAttribute) fp w cs.toList (q0, q1, q2, q3)) :
  cs = #[.string q0, .int .i64 q1, .int .i64 q2, .bool q3] ∧ fp = ([] ++ ([] ++ ([] ++ []))) ∧ q0.size ≤ maxLen ∧ (Lit.int .i64 q1).wf = true ∧ (Lit.int .i64 q2).wf = true := by
 generalize hcs : cs.toList = l at h
 obtain ⟨_, _, _, _, rfl, rfl, ⟨rfl, rfl, hq0⟩, ⟨_, _, _, _, rfl, rfl, ⟨rfl, rfl, hq1⟩, ⟨_, _, _, _, rfl, rfl, ⟨rfl, rfl, hq2⟩, ⟨rfl, rfl⟩⟩⟩⟩ := h
 exact ⟨Array.toList_inj.1 (by simpa using hcs), rfl, hq0, hq1, hq2⟩

theorem rdAttribute_mk {w : World} (q0 : ByteArray) (q1 : Int) (q2 : Int) (q3 : Bool) (hq0 : q0.size ≤ maxLen) (hq1 : (Lit.int .i64 q1).wf = true) (hq2 : (Lit.int .i64 q2).wf = true) :
  Rd.rd (α := GAttribute) (([] ++ ([] ++ ([] ++ [])))) w [.string q0, .int .i64 q1, .int .i64 q2, .bool q3] (q0, q1, q2, q3) := ⟨_, _, _, _, rfl, rfl, ⟨rfl, rfl, hq0⟩, ⟨_, _, _, _, rfl, rfl, ⟨rfl, rfl, hq1⟩, ⟨_, _, _, _, rfl, rfl, ⟨rfl, rfl, hq2⟩, ⟨rfl, rfl⟩⟩⟩⟩

def wtAttributeS (xs : List GAttribute) : Nat := wtL wtAttribute xs

abbrev GSymbol := ByteArray × List GAttribute
def wtSymbol (x : GSymbol) : Nat := x.1.size + wtAttributeS x.2

theorem rdSymbol_inv {fp : List Nat} {w : World} {cs : Array Value} (q0 : ByteArray) (q1 : List GAttribute) (h : Rd.rd (α := GSymbol) fp w cs.toList (q0, q1)) :
  ∃ vq1 fq1, cs = #[.string q0, vq1] ∧ fp = ([] ++ fq1) ∧ q0.size ≤ maxLen ∧ SlR fq1 w vq1 q1 := by
 generalize hcs : cs.toList = l at h
 obtain ⟨_, _, _, _, rfl, rfl, ⟨rfl, rfl, hq0⟩, ⟨vq1, rfl, hq1⟩⟩ := h
 exact ⟨_, _, Array.toList_inj.1 (by simpa using hcs), rfl, hq0, hq1⟩

theorem rdSymbol_shape {fp : List Nat} {w : World} {cs : Array Value} {x : GSymbol} (h : Rd.rd (α := GSymbol) fp w cs.toList x) :
  ∃ q0 aq1 lq1 cq1, cs = #[.string q0, .slice aq1 lq1 cq1] := by
 obtain ⟨q0, q1⟩ := x
 obtain ⟨vq1, fq1, rfl, -, -, hq1⟩ := rdSymbol_inv q0 q1 h
 obtain ⟨aq1, cq1, rfl, -, -, -⟩ := hq1.open
 exact ⟨_, _, _, _, rfl⟩

theorem rdSymbol_mk {w : World} (q0 : ByteArray) (q1 : List GAttribute) {vq1 : Value} {fq1 : List Nat} (hq0 : q0.size ≤ maxLen) (hq1 : SlR fq1 w vq1 q1) :
  Rd.rd (α := GSymbol) (([] ++ fq1)) w [.string q0, vq1] (q0, q1) := ⟨_, _, _, _, rfl, rfl, ⟨rfl, rfl, hq0⟩, ⟨_, rfl, hq1⟩⟩

def wtSymbolS (xs : List GSymbol) : Nat := wtL wtSymbol xs

abbrev GOccurrence := Int × ByteArray
def wtOccurrence (x : GOccurrence) : Nat := x.2.size

theorem rdOccurrence_inv {fp : List Nat} {w : World} {cs : Array Value} (q0 : Int) (q1 : ByteArray) (h : Rd.rd (α := GOccurrence) fp w cs.toList (q0, q1)) :
  cs = #[.int .i64 q0, .string q1] ∧ fp = ([] ++ []) ∧ (Lit.int .i64 q0).wf = true ∧ q1.size ≤ maxLen := by
 generalize hcs : cs.toList = l at h
 obtain ⟨_, _, _, _, rfl, rfl, ⟨rfl, rfl, hq0⟩, ⟨rfl, rfl, hq1⟩⟩ := h
 exact ⟨Array.toList_inj.1 (by simpa using hcs), rfl, hq0, hq1⟩

theorem rdOccurrence_mk {w : World} (q0 : Int) (q1 : ByteArray) (hq0 : (Lit.int .i64 q0).wf = true) (hq1 : q1.size ≤ maxLen) :
  Rd.rd (α := GOccurrence) (([] ++ [])) w [.int .i64 q0, .string q1] (q0, q1) := ⟨_, _, _, _, rfl, rfl, ⟨rfl, rfl, hq0⟩, ⟨rfl, rfl, hq1⟩⟩

end Go.Proofs.Ytmfcagcanhmdbaa
