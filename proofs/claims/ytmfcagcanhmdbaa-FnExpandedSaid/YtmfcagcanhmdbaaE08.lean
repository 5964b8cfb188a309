/- Contracts of the functions that measure, compare and copy: Node, Node*, Tree. Made by mk_fam.py. No condition. -/
import Derived.Test.YtmfcagcanhmdbaaE02
namespace Go.Proofs.Ytmfcagcanhmdbaa
open Go.RowKit

abbrev GNode := Int × Int × Int × Int × ByteArray × List Int
def wtNode (x : GNode) : Nat := x.2.2.2.2.1.size + x.2.2.2.2.2.length
instance decNode : DecidableEq GNode := @instDecidableEqProd _ _ _ (@instDecidableEqProd _ _ _ (@instDecidableEqProd _ _ _ (@instDecidableEqProd _ _ _ (@instDecidableEqProd _ _ _ (inferInstance)))))

theorem rdNode_inv {fp : List Nat} {w : World} {cs : Array Value} (q0 : Int) (q1 : Int) (q2 : Int) (q3 : Int) (q4 : ByteArray) (q5 : List Int) (h : Rd.rd (α := GNode) fp w cs.toList (q0, q1, q2, q3, q4, q5)) :
  ∃ vq5 fq5, cs = #[.int .i64 q0, .int .i64 q1, .int .i64 q2, .int .i64 q3, .string q4, vq5] ∧ fp = ([] ++ ([] ++ ([] ++ ([] ++ ([] ++ fq5))))) ∧ (Lit.int .i64 q0).wf = true ∧ (Lit.int .i64 q1).wf = true ∧ (Lit.int .i64 q2).wf = true ∧ (Lit.int .i64 q3).wf = true ∧ q4.size ≤ maxLen ∧ SlR fq5 w vq5 q5 := by
 generalize hcs : cs.toList = l at h
 obtain ⟨_, _, _, _, rfl, rfl, ⟨rfl, rfl, hq0⟩, ⟨_, _, _, _, rfl, rfl, ⟨rfl, rfl, hq1⟩, ⟨_, _, _, _, rfl, rfl, ⟨rfl, rfl, hq2⟩, ⟨_, _, _, _, rfl, rfl, ⟨rfl, rfl, hq3⟩, ⟨_, _, _, _, rfl, rfl, ⟨rfl, rfl, hq4⟩, ⟨vq5, rfl, hq5⟩⟩⟩⟩⟩⟩ := h
 exact ⟨_, _, Array.toList_inj.1 (by simpa using hcs), rfl, hq0, hq1, hq2, hq3, hq4, hq5⟩

theorem rdNode_mk {w : World} (q0 : Int) (q1 : Int) (q2 : Int) (q3 : Int) (q4 : ByteArray) (q5 : List Int) {vq5 : Value} {fq5 : List Nat} (hq0 : (Lit.int .i64 q0).wf = true) (hq1 : (Lit.int .i64 q1).wf = true) (hq2 : (Lit.int .i64 q2).wf = true) (hq3 : (Lit.int .i64 q3).wf = true) (hq4 : q4.size ≤ maxLen) (hq5 : SlR fq5 w vq5 q5) :
  Rd.rd (α := GNode) (([] ++ ([] ++ ([] ++ ([] ++ ([] ++ fq5)))))) w [.int .i64 q0, .int .i64 q1, .int .i64 q2, .int .i64 q3, .string q4, vq5] (q0, q1, q2, q3, q4, q5) := ⟨_, _, _, _, rfl, rfl, ⟨rfl, rfl, hq0⟩, ⟨_, _, _, _, rfl, rfl, ⟨rfl, rfl, hq1⟩, ⟨_, _, _, _, rfl, rfl, ⟨rfl, rfl, hq2⟩, ⟨_, _, _, _, rfl, rfl, ⟨rfl, rfl, hq3⟩, ⟨_, _, _, _, rfl, rfl, ⟨rfl, rfl, hq4⟩, ⟨_, rfl, hq5⟩⟩⟩⟩⟩⟩

def wtNodeS (xs : List GNode) : Nat := wtL wtNode xs

theorem Try.infoNode : (Try.prog.info? 86).map (fun i => (i.zero, i.size, i.bytes)) = some (some (.agg #[.int .i64 0, .int .i64 0, .int .i64 0, .int .i64 0, .string ByteArray.empty, .slice none 0 0]), 6, 72) := by kernel_rfl

abbrev GTree := List GNode
def wtTree (x : GTree) : Nat := wtNodeS x

theorem rdTree_inv {fp : List Nat} {w : World} {cs : Array Value} (q0 : List GNode) (h : Rd.rd (α := GTree) fp w cs.toList q0) :
  ∃ vq0 fq0, cs = #[vq0] ∧ fp = fq0 ∧ SlR fq0 w vq0 q0 := by
 generalize hcs : cs.toList = l at h
 obtain ⟨vq0, rfl, hq0⟩ := h
 exact ⟨_, _, Array.toList_inj.1 (by simpa using hcs), rfl, hq0⟩

theorem rdTree_mk {w : World} (q0 : List GNode) {vq0 : Value} {fq0 : List Nat} (hq0 : SlR fq0 w vq0 q0) :
  Rd.rd (α := GTree) (fq0) w [vq0] q0 := ⟨_, rfl, hq0⟩

end Go.Proofs.Ytmfcagcanhmdbaa
