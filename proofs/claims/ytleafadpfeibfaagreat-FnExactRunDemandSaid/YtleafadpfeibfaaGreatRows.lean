/-
  NARROWER THAN 'FOR EVERY INPUT', by the rows' own cells (each row's printed sentence says how): FnExactReadsOf: loops · FnExactSliceOf: loops · FnExactRunAll: loops · FnExactRunDemand: loops.
  DERIVED. THE GIVEN ROWS OF THIS SEAT. 4 by the template 'for every input the law returns true; each argument reads behind the call as it read before'; 0 by the template 'total and deterministic' (their statements: YtleafadpfeibfaaGreatTotals.lean).
  GIVEN WITH THE SEED: the statements are not yours to turn. If you find one false, say at which input.
  Laid BY PROGRAM, IN A SANDBOX (cutbox-rows.mjs): the forced cells as the released guide's own fill.sh prints them over the translation 8d022ac619d1849a… (all of the seat's roots in one cut). By AI agents, Wed Nov 11 2026. No macro, syntax, notation, axiom, sorry.
-/
import Derived.Test.YtleafadpfeibfaaGreatChecked
import GoSem.Claim
import GoSem.ClaimJoined
import GoSem.ClaimMapViews
import Derived.JoinedTies
import Derived.KernelRfl
namespace Go.Proofs.YtleafadpfeibfaaGreat
/- THE CELL 'sum', in the pinned program and in every row, IS THE sha256 OF THE DUMP (.gsa) THAT YtleafadpfeibfaaGreatProg.lean LOADS. Nothing in Lean hashes anything: it is a label: what it is worth is what the hold of that sum in a sandbox is worth. -/
noncomputable def Tryz.pinned : Pinned := { name := "ytleafadpfeibfaagreat", sum := "8d022ac619d1849a283d146c6ada546644a40b1e1ddd43116a76898938ab7e1b", checked := Tryz.checked }
namespace Rows
def none {H : Type} : Left H := { results := [], args := [] }

/-- 'laws.FnExactReadsOf': WHATEVER THE INPUT: true; the input reads as it did. -/
def fnExactReadsOfSpec : ChangeSpec := { name := "fnExactReadsOf", fn := fun _ => fun
  | [d1, d2, d3] => { results := [.lit (.bool true)], args := [d1, d2, d3] }
  | _ => none }
def fnExactReadsOfRow : OpenClaim := { program := "ytleafadpfeibfaagreat", sum := "8d022ac619d1849a283d146c6ada546644a40b1e1ddd43116a76898938ab7e1b", func := "loop.example/g00512/laws.FnExactReadsOf", spec := "fnExactReadsOf", unfollowed := true, recurses := true, loops := true, apart := false }
def FnExactReadsOfSaid : Prop := fnExactReadsOfRow.holds Tryz.pinned (OpenSpec.ofChange fnExactReadsOfSpec)

/-- ITS FALSE NEIGHBOUR: 'it returns false'. Refute it at one input. -/
def fnExactReadsOfWrong : ChangeSpec := { name := "fnExactReadsOf", fn := fun _ => fun
  | [d1, d2, d3] => { results := [.lit (.bool false)], args := [d1, d2, d3] }
  | _ => none }
def FnExactReadsOfWrongFalsely : Prop := fnExactReadsOfRow.holds Tryz.pinned (OpenSpec.ofChange fnExactReadsOfWrong)

/-- 'laws.FnExactSliceOf': WHATEVER THE INPUT: true; the input reads as it did. -/
def fnExactSliceOfSpec : ChangeSpec := { name := "fnExactSliceOf", fn := fun _ => fun
  | [d1, d2, d3] => { results := [.lit (.bool true)], args := [d1, d2, d3] }
  | _ => none }
def fnExactSliceOfRow : OpenClaim := { program := "ytleafadpfeibfaagreat", sum := "8d022ac619d1849a283d146c6ada546644a40b1e1ddd43116a76898938ab7e1b", func := "loop.example/g00512/laws.FnExactSliceOf", spec := "fnExactSliceOf", unfollowed := true, recurses := true, loops := true, apart := false }
def FnExactSliceOfSaid : Prop := fnExactSliceOfRow.holds Tryz.pinned (OpenSpec.ofChange fnExactSliceOfSpec)

/-- ITS FALSE NEIGHBOUR: 'it returns false'. Refute it at one input. -/
def fnExactSliceOfWrong : ChangeSpec := { name := "fnExactSliceOf", fn := fun _ => fun
  | [d1, d2, d3] => { results := [.lit (.bool false)], args := [d1, d2, d3] }
  | _ => none }
def FnExactSliceOfWrongFalsely : Prop := fnExactSliceOfRow.holds Tryz.pinned (OpenSpec.ofChange fnExactSliceOfWrong)

/-- 'laws.FnExactRunAll': WHATEVER THE INPUT: true; the input reads as it did. -/
def fnExactRunAllSpec : ChangeSpec := { name := "fnExactRunAll", fn := fun _ => fun
  | [d1, d2] => { results := [.lit (.bool true)], args := [d1, d2] }
  | _ => none }
def fnExactRunAllRow : OpenClaim := { program := "ytleafadpfeibfaagreat", sum := "8d022ac619d1849a283d146c6ada546644a40b1e1ddd43116a76898938ab7e1b", func := "loop.example/g00512/laws.FnExactRunAll", spec := "fnExactRunAll", unfollowed := true, recurses := true, loops := true, apart := false }
def FnExactRunAllSaid : Prop := fnExactRunAllRow.holds Tryz.pinned (OpenSpec.ofChange fnExactRunAllSpec)

/-- ITS FALSE NEIGHBOUR: 'it returns false'. Refute it at one input. -/
def fnExactRunAllWrong : ChangeSpec := { name := "fnExactRunAll", fn := fun _ => fun
  | [d1, d2] => { results := [.lit (.bool false)], args := [d1, d2] }
  | _ => none }
def FnExactRunAllWrongFalsely : Prop := fnExactRunAllRow.holds Tryz.pinned (OpenSpec.ofChange fnExactRunAllWrong)

/-- 'laws.FnExactRunDemand': WHATEVER THE INPUT: true; the input reads as it did. -/
def fnExactRunDemandSpec : ChangeSpec := { name := "fnExactRunDemand", fn := fun _ => fun
  | [d1, d2, d3] => { results := [.lit (.bool true)], args := [d1, d2, d3] }
  | _ => none }
def fnExactRunDemandRow : OpenClaim := { program := "ytleafadpfeibfaagreat", sum := "8d022ac619d1849a283d146c6ada546644a40b1e1ddd43116a76898938ab7e1b", func := "loop.example/g00512/laws.FnExactRunDemand", spec := "fnExactRunDemand", unfollowed := true, recurses := true, loops := true, apart := false }
def FnExactRunDemandSaid : Prop := fnExactRunDemandRow.holds Tryz.pinned (OpenSpec.ofChange fnExactRunDemandSpec)

/-- ITS FALSE NEIGHBOUR: 'it returns false'. Refute it at one input. -/
def fnExactRunDemandWrong : ChangeSpec := { name := "fnExactRunDemand", fn := fun _ => fun
  | [d1, d2, d3] => { results := [.lit (.bool false)], args := [d1, d2, d3] }
  | _ => none }
def FnExactRunDemandWrongFalsely : Prop := fnExactRunDemandRow.holds Tryz.pinned (OpenSpec.ofChange fnExactRunDemandWrong)

/- THE SECOND FORM. 'bulk': how many values and letters a reading holds, each counted each time it is reached (what is shared counts as often as it is met; a slice's spare places count too). A statement '..UptoSaid' is the law's where the arguments, and the package variables that the reading takes, are together of bulk at most 1048576: NARROWER than '..Said'. Prove '..Said' where nothing that the law and all that it calls make is longer than what came in: it says more and counts as full. Else prove '..UptoSaid'. A law counts once. -/
mutual
def uptoBulk {H : Type} : DataW H → Nat
  | .lit (.string bytes) => bytes.length + 1
  | .lit _ => 1
  | .nil => 1
  | .ptr d => uptoBulk d + 1
  | .slice elems spare => uptoBulkAll elems + uptoBulkAll spare + 1
  | .agg parts => uptoBulkAll parts + 1
  | .iface _ d => uptoBulk d + 1
  | .map entries => uptoBulkEntries entries + 1
  | .held _ => 1
def uptoBulkAll {H : Type} : List (DataW H) → Nat
  | [] => 0
  | d :: r => uptoBulk d + uptoBulkAll r
def uptoBulkEntries {H : Type} : List (Lit × DataW H) → Nat
  | [] => 0
  | x :: r => uptoBulkEntry x + uptoBulkEntries r
def uptoBulkEntry {H : Type} : Lit × DataW H → Nat
  | (.string bytes, d) => bytes.length + uptoBulk d + 1
  | (_, d) => uptoBulk d + 1
 end
def uptoSmall : (H : Type) → List (DataW H) → Bool := fun _ ds => decide (uptoBulkAll ds ≤ 1048576)
def OpenSpec.upto (s : _root_.Go.ChangeSpec) : _root_.Go.OpenSpec := { _root_.Go.OpenSpec.ofChange s with cond := some uptoSmall }

/-- 'laws.FnExactReadsOf', WHERE WHAT IT READS IS OF BULK AT MOST 1048576: true; the input reads as it did. -/
def fnExactReadsOfUptoRow : OpenClaim := { program := "ytleafadpfeibfaagreat", sum := "8d022ac619d1849a283d146c6ada546644a40b1e1ddd43116a76898938ab7e1b", func := "loop.example/g00512/laws.FnExactReadsOf", spec := "fnExactReadsOf", unfollowed := true, recurses := true, loops := true, apart := false, narrowed := true }
def FnExactReadsOfUptoSaid : Prop := fnExactReadsOfUptoRow.holds Tryz.pinned (OpenSpec.upto fnExactReadsOfSpec)

/-- 'laws.FnExactSliceOf', WHERE WHAT IT READS IS OF BULK AT MOST 1048576: true; the input reads as it did. -/
def fnExactSliceOfUptoRow : OpenClaim := { program := "ytleafadpfeibfaagreat", sum := "8d022ac619d1849a283d146c6ada546644a40b1e1ddd43116a76898938ab7e1b", func := "loop.example/g00512/laws.FnExactSliceOf", spec := "fnExactSliceOf", unfollowed := true, recurses := true, loops := true, apart := false, narrowed := true }
def FnExactSliceOfUptoSaid : Prop := fnExactSliceOfUptoRow.holds Tryz.pinned (OpenSpec.upto fnExactSliceOfSpec)

/-- 'laws.FnExactRunAll', WHERE WHAT IT READS IS OF BULK AT MOST 1048576: true; the input reads as it did. -/
def fnExactRunAllUptoRow : OpenClaim := { program := "ytleafadpfeibfaagreat", sum := "8d022ac619d1849a283d146c6ada546644a40b1e1ddd43116a76898938ab7e1b", func := "loop.example/g00512/laws.FnExactRunAll", spec := "fnExactRunAll", unfollowed := true, recurses := true, loops := true, apart := false, narrowed := true }
def FnExactRunAllUptoSaid : Prop := fnExactRunAllUptoRow.holds Tryz.pinned (OpenSpec.upto fnExactRunAllSpec)

/-- 'laws.FnExactRunDemand', WHERE WHAT IT READS IS OF BULK AT MOST 1048576: true; the input reads as it did. -/
def fnExactRunDemandUptoRow : OpenClaim := { program := "ytleafadpfeibfaagreat", sum := "8d022ac619d1849a283d146c6ada546644a40b1e1ddd43116a76898938ab7e1b", func := "loop.example/g00512/laws.FnExactRunDemand", spec := "fnExactRunDemand", unfollowed := true, recurses := true, loops := true, apart := false, narrowed := true }
def FnExactRunDemandUptoSaid : Prop := fnExactRunDemandUptoRow.holds Tryz.pinned (OpenSpec.upto fnExactRunDemandSpec)

end Rows
end Go.Proofs.YtleafadpfeibfaaGreat
