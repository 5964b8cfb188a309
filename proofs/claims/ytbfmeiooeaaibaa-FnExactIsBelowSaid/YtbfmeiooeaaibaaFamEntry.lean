/- Contracts of the functions that measure, compare and copy: Entry*, Memo. Made by mk_fam.py. No condition. -/
import Derived.Test.YtbfmeiooeaaibaaFamEntryA
namespace Go.Proofs.Ytbfmeiooeaaibaa
open Go.RowKit

def wtEntryS (xs : List GEntry) : Nat := wtL wtEntry xs

abbrev GMemo := List GEntry × List GInstance
def wtMemo (x : GMemo) : Nat := wtEntryS x.1 + wtInstanceS x.2

theorem rdMemo_inv {fp : List Nat} {w : World} {cs : Array Value} (q0 : List GEntry) (q1 : List GInstance) (h : Rd.rd (α := GMemo) fp w cs.toList (q0, q1)) :
    ∃ vq0 fq0 vq1 fq1, cs = #[vq0, vq1] ∧ fp = (fq0 ++ fq1) ∧ SlR fq0 w vq0 q0 ∧ SlR fq1 w vq1 q1 := by
  generalize hcs : cs.toList = l at h
  obtain ⟨_, _, _, _, rfl, rfl, ⟨vq0, rfl, hq0⟩, ⟨vq1, rfl, hq1⟩⟩ := h
  exact ⟨_, _, _, _, Array.toList_inj.1 (by simpa using hcs), rfl, hq0, hq1⟩

theorem rdMemo_shape {fp : List Nat} {w : World} {cs : Array Value} {x : GMemo} (h : Rd.rd (α := GMemo) fp w cs.toList x) :
    ∃ aq0 lq0 cq0 aq1 lq1 cq1, cs = #[.slice aq0 lq0 cq0, .slice aq1 lq1 cq1] := by
  obtain ⟨q0, q1⟩ := x
  obtain ⟨vq0, fq0, vq1, fq1, rfl, -, hq0, hq1⟩ := rdMemo_inv q0 q1 h
  obtain ⟨aq0, cq0, rfl, -, -, -⟩ := hq0.open
  obtain ⟨aq1, cq1, rfl, -, -, -⟩ := hq1.open
  exact ⟨_, _, _, _, _, _, rfl⟩

theorem rdMemo_mk {w : World} (q0 : List GEntry) (q1 : List GInstance) {vq0 : Value} {fq0 : List Nat} {vq1 : Value} {fq1 : List Nat} (hq0 : SlR fq0 w vq0 q0) (hq1 : SlR fq1 w vq1 q1) :
    Rd.rd (α := GMemo) ((fq0 ++ fq1)) w [vq0, vq1] (q0, q1) := ⟨_, _, _, _, rfl, rfl, ⟨_, rfl, hq0⟩, ⟨_, rfl, hq1⟩⟩

theorem Memo_ext (q0 : List GEntry) (q1 : List GInstance) (p0 : List GEntry) (p1 : List GInstance) (e0 : q0 = p0) (e1 : q1 = p1) : ((q0, q1) : GMemo) = (p0, p1) := by
  exact Prod.ext_iff.2 ⟨e0, e1⟩

end Go.Proofs.Ytbfmeiooeaaibaa
