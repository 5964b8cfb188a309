/- Contracts of the functions that measure, compare and copy: Entry. Made by mk_fam.py. No condition. -/
import Derived.Test.YtbfmeiooeaaibaaFamRead
namespace Go.Proofs.Ytbfmeiooeaaibaa
open Go.RowKit

abbrev GEntry := GInstance × Int × Int × Int × ByteArray × List Int × List Int × List GReading
def wtEntry (x : GEntry) : Nat := wtInstance x.1 + x.2.2.2.2.1.size + x.2.2.2.2.2.1.length + x.2.2.2.2.2.2.1.length + wtReadingS x.2.2.2.2.2.2.2
instance decEntry : DecidableEq GEntry := @instDecidableEqProd _ _ _ (@instDecidableEqProd _ _ _ (@instDecidableEqProd _ _ _ (@instDecidableEqProd _ _ _ (@instDecidableEqProd _ _ _ (@instDecidableEqProd _ _ _ (@instDecidableEqProd _ _ _ (inferInstance)))))))

theorem rdEntry_inv {fp : List Nat} {w : World} {cs : Array Value} (q00 : Int) (q01 : ByteArray) (q1 : Int) (q2 : Int) (q3 : Int) (q4 : ByteArray) (q5 : List Int) (q6 : List Int) (q7 : List GReading) (h : Rd.rd (α := GEntry) fp w cs.toList ((q00, q01), q1, q2, q3, q4, q5, q6, q7)) :
    ∃ vq5 fq5 vq6 fq6 vq7 fq7, cs = #[.int .i64 q00, .string q01, .int .i64 q1, .int .i64 q2, .int .i64 q3, .string q4, vq5, vq6, vq7] ∧ fp = (([] ++ []) ++ ([] ++ ([] ++ ([] ++ ([] ++ (fq5 ++ (fq6 ++ fq7))))))) ∧ (Lit.int .i64 q00).wf = true ∧ q01.size ≤ maxLen ∧ (Lit.int .i64 q1).wf = true ∧ (Lit.int .i64 q2).wf = true ∧ (Lit.int .i64 q3).wf = true ∧ q4.size ≤ maxLen ∧ SlR fq5 w vq5 q5 ∧ SlR fq6 w vq6 q6 ∧ SlR fq7 w vq7 q7 := by
  generalize hcs : cs.toList = l at h
  obtain ⟨_, _, _, _, rfl, rfl, ⟨_, _, _, _, rfl, rfl, ⟨rfl, rfl, hq00⟩, ⟨rfl, rfl, hq01⟩⟩, ⟨_, _, _, _, rfl, rfl, ⟨rfl, rfl, hq1⟩, ⟨_, _, _, _, rfl, rfl, ⟨rfl, rfl, hq2⟩, ⟨_, _, _, _, rfl, rfl, ⟨rfl, rfl, hq3⟩, ⟨_, _, _, _, rfl, rfl, ⟨rfl, rfl, hq4⟩, ⟨_, _, _, _, rfl, rfl, ⟨vq5, rfl, hq5⟩, ⟨_, _, _, _, rfl, rfl, ⟨vq6, rfl, hq6⟩, ⟨vq7, rfl, hq7⟩⟩⟩⟩⟩⟩⟩⟩ := h
  exact ⟨_, _, _, _, _, _, Array.toList_inj.1 (by simpa using hcs), rfl, hq00, hq01, hq1, hq2, hq3, hq4, hq5, hq6, hq7⟩

theorem rdEntry_shape {fp : List Nat} {w : World} {cs : Array Value} {x : GEntry} (h : Rd.rd (α := GEntry) fp w cs.toList x) :
    ∃ q00 q01 q1 q2 q3 q4 aq5 lq5 cq5 aq6 lq6 cq6 aq7 lq7 cq7, cs = #[.int .i64 q00, .string q01, .int .i64 q1, .int .i64 q2, .int .i64 q3, .string q4, .slice aq5 lq5 cq5, .slice aq6 lq6 cq6, .slice aq7 lq7 cq7] := by
  obtain ⟨⟨q00, q01⟩, q1, q2, q3, q4, q5, q6, q7⟩ := x
  obtain ⟨vq5, fq5, vq6, fq6, vq7, fq7, rfl, -, -, -, -, -, -, -, hq5, hq6, hq7⟩ := rdEntry_inv q00 q01 q1 q2 q3 q4 q5 q6 q7 h
  obtain ⟨aq5, cq5, rfl, -, -, -⟩ := hq5.open
  obtain ⟨aq6, cq6, rfl, -, -, -⟩ := hq6.open
  obtain ⟨aq7, cq7, rfl, -, -, -⟩ := hq7.open
  exact ⟨_, _, _, _, _, _, _, _, _, _, _, _, _, _, _, rfl⟩

theorem rdEntry_mk {w : World} (q00 : Int) (q01 : ByteArray) (q1 : Int) (q2 : Int) (q3 : Int) (q4 : ByteArray) (q5 : List Int) (q6 : List Int) (q7 : List GReading) {vq5 : Value} {fq5 : List Nat} {vq6 : Value} {fq6 : List Nat} {vq7 : Value} {fq7 : List Nat} (hq00 : (Lit.int .i64 q00).wf = true) (hq01 : q01.size ≤ maxLen) (hq1 : (Lit.int .i64 q1).wf = true) (hq2 : (Lit.int .i64 q2).wf = true) (hq3 : (Lit.int .i64 q3).wf = true) (hq4 : q4.size ≤ maxLen) (hq5 : SlR fq5 w vq5 q5) (hq6 : SlR fq6 w vq6 q6) (hq7 : SlR fq7 w vq7 q7) :
    Rd.rd (α := GEntry) ((([] ++ []) ++ ([] ++ ([] ++ ([] ++ ([] ++ (fq5 ++ (fq6 ++ fq7)))))))) w [.int .i64 q00, .string q01, .int .i64 q1, .int .i64 q2, .int .i64 q3, .string q4, vq5, vq6, vq7] ((q00, q01), q1, q2, q3, q4, q5, q6, q7) := ⟨_, _, _, _, rfl, rfl, ⟨_, _, _, _, rfl, rfl, ⟨rfl, rfl, hq00⟩, ⟨rfl, rfl, hq01⟩⟩, ⟨_, _, _, _, rfl, rfl, ⟨rfl, rfl, hq1⟩, ⟨_, _, _, _, rfl, rfl, ⟨rfl, rfl, hq2⟩, ⟨_, _, _, _, rfl, rfl, ⟨rfl, rfl, hq3⟩, ⟨_, _, _, _, rfl, rfl, ⟨rfl, rfl, hq4⟩, ⟨_, _, _, _, rfl, rfl, ⟨_, rfl, hq5⟩, ⟨_, _, _, _, rfl, rfl, ⟨_, rfl, hq6⟩, ⟨_, rfl, hq7⟩⟩⟩⟩⟩⟩⟩⟩

theorem Entry_ext (q00 : Int) (q01 : ByteArray) (q1 : Int) (q2 : Int) (q3 : Int) (q4 : ByteArray) (q5 : List Int) (q6 : List Int) (q7 : List GReading) (p00 : Int) (p01 : ByteArray) (p1 : Int) (p2 : Int) (p3 : Int) (p4 : ByteArray) (p5 : List Int) (p6 : List Int) (p7 : List GReading) (e0 : (q00, q01) = (p00, p01)) (e1 : q1 = p1) (e2 : q2 = p2) (e3 : q3 = p3) (e4 : q4 = p4) (e5 : q5 = p5) (e6 : q6 = p6) (e7 : q7 = p7) : (((q00, q01), q1, q2, q3, q4, q5, q6, q7) : GEntry) = ((p00, p01), p1, p2, p3, p4, p5, p6, p7) := by
  exact Prod.ext_iff.2 ⟨e0, Prod.ext_iff.2 ⟨e1, Prod.ext_iff.2 ⟨e2, Prod.ext_iff.2 ⟨e3, Prod.ext_iff.2 ⟨e4, Prod.ext_iff.2 ⟨e5, Prod.ext_iff.2 ⟨e6, e7⟩⟩⟩⟩⟩⟩⟩

end Go.Proofs.Ytbfmeiooeaaibaa
