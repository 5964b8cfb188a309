/- Contracts of the functions that measure, compare and copy: Instance, Instance*, Reading, Reading*. Made by mk_fam.py. No condition. -/
import Derived.Test.YtbfmeiooeaaibaaIntsD
namespace Go.Proofs.Ytbfmeiooeaaibaa
open Go.RowKit

abbrev GInstance := Int × ByteArray
def wtInstance (x : GInstance) : Nat := x.2.size

theorem rdInstance_inv {fp : List Nat} {w : World} {cs : Array Value} (q0 : Int) (q1 : ByteArray) (h : Rd.rd (α := GInstance) fp w cs.toList (q0, q1)) :
    cs = #[.int .i64 q0, .string q1] ∧ fp = ([] ++ []) ∧ (Lit.int .i64 q0).wf = true ∧ q1.size ≤ maxLen := by
  generalize hcs : cs.toList = l at h
  obtain ⟨_, _, _, _, rfl, rfl, ⟨rfl, rfl, hq0⟩, ⟨rfl, rfl, hq1⟩⟩ := h
  exact ⟨Array.toList_inj.1 (by simpa using hcs), rfl, hq0, hq1⟩

theorem rdInstance_shape {fp : List Nat} {w : World} {cs : Array Value} {x : GInstance} (h : Rd.rd (α := GInstance) fp w cs.toList x) :
    ∃ q0 q1, cs = #[.int .i64 q0, .string q1] := by
  obtain ⟨q0, q1⟩ := x
  obtain ⟨rfl, -, -, -⟩ := rdInstance_inv q0 q1 h
  exact ⟨_, _, rfl⟩

theorem rdInstance_mk {w : World} (q0 : Int) (q1 : ByteArray) (hq0 : (Lit.int .i64 q0).wf = true) (hq1 : q1.size ≤ maxLen) :
    Rd.rd (α := GInstance) (([] ++ [])) w [.int .i64 q0, .string q1] (q0, q1) := ⟨_, _, _, _, rfl, rfl, ⟨rfl, rfl, hq0⟩, ⟨rfl, rfl, hq1⟩⟩

theorem Instance_ext (q0 : Int) (q1 : ByteArray) (p0 : Int) (p1 : ByteArray) (e0 : q0 = p0) (e1 : q1 = p1) : ((q0, q1) : GInstance) = (p0, p1) := by
  exact Prod.ext_iff.2 ⟨e0, e1⟩

def wtInstanceS (xs : List GInstance) : Nat := wtL wtInstance xs

theorem Try.infoInstance : (Try.prog.info? 57).map (fun i => (i.zero, i.size, i.bytes)) = some (some (.agg #[.int .i64 0, .string ByteArray.empty]), 2, 24) := by kernel_rfl

abbrev GReading := GInstance × Int × ByteArray
def wtReading (x : GReading) : Nat := wtInstance x.1 + x.2.2.size
instance decReading : DecidableEq GReading := @instDecidableEqProd _ _ _ (@instDecidableEqProd _ _ _ (inferInstance))

theorem rdReading_inv {fp : List Nat} {w : World} {cs : Array Value} (q00 : Int) (q01 : ByteArray) (q1 : Int) (q2 : ByteArray) (h : Rd.rd (α := GReading) fp w cs.toList ((q00, q01), q1, q2)) :
    cs = #[.int .i64 q00, .string q01, .int .i64 q1, .string q2] ∧ fp = (([] ++ []) ++ ([] ++ [])) ∧ (Lit.int .i64 q00).wf = true ∧ q01.size ≤ maxLen ∧ (Lit.int .i64 q1).wf = true ∧ q2.size ≤ maxLen := by
  generalize hcs : cs.toList = l at h
  obtain ⟨_, _, _, _, rfl, rfl, ⟨_, _, _, _, rfl, rfl, ⟨rfl, rfl, hq00⟩, ⟨rfl, rfl, hq01⟩⟩, ⟨_, _, _, _, rfl, rfl, ⟨rfl, rfl, hq1⟩, ⟨rfl, rfl, hq2⟩⟩⟩ := h
  exact ⟨Array.toList_inj.1 (by simpa using hcs), rfl, hq00, hq01, hq1, hq2⟩

theorem rdReading_shape {fp : List Nat} {w : World} {cs : Array Value} {x : GReading} (h : Rd.rd (α := GReading) fp w cs.toList x) :
    ∃ q00 q01 q1 q2, cs = #[.int .i64 q00, .string q01, .int .i64 q1, .string q2] := by
  obtain ⟨⟨q00, q01⟩, q1, q2⟩ := x
  obtain ⟨rfl, -, -, -, -, -⟩ := rdReading_inv q00 q01 q1 q2 h
  exact ⟨_, _, _, _, rfl⟩

theorem rdReading_mk {w : World} (q00 : Int) (q01 : ByteArray) (q1 : Int) (q2 : ByteArray) (hq00 : (Lit.int .i64 q00).wf = true) (hq01 : q01.size ≤ maxLen) (hq1 : (Lit.int .i64 q1).wf = true) (hq2 : q2.size ≤ maxLen) :
    Rd.rd (α := GReading) ((([] ++ []) ++ ([] ++ []))) w [.int .i64 q00, .string q01, .int .i64 q1, .string q2] ((q00, q01), q1, q2) := ⟨_, _, _, _, rfl, rfl, ⟨_, _, _, _, rfl, rfl, ⟨rfl, rfl, hq00⟩, ⟨rfl, rfl, hq01⟩⟩, ⟨_, _, _, _, rfl, rfl, ⟨rfl, rfl, hq1⟩, ⟨rfl, rfl, hq2⟩⟩⟩

theorem Reading_ext (q00 : Int) (q01 : ByteArray) (q1 : Int) (q2 : ByteArray) (p00 : Int) (p01 : ByteArray) (p1 : Int) (p2 : ByteArray) (e0 : (q00, q01) = (p00, p01)) (e1 : q1 = p1) (e2 : q2 = p2) : (((q00, q01), q1, q2) : GReading) = ((p00, p01), p1, p2) := by
  exact Prod.ext_iff.2 ⟨e0, Prod.ext_iff.2 ⟨e1, e2⟩⟩

def wtReadingS (xs : List GReading) : Nat := wtL wtReading xs

end Go.Proofs.Ytbfmeiooeaaibaa
