/-
  NARROWER THAN 'FOR EVERY INPUT', by the rows' own cells (each row's printed sentence says how): FnExactSourceOf: loops · FnExactIsJustified: loops · FnExactUnjustifiedOf: loops.
  DERIVED. THE GIVEN ROWS OF THIS SEAT. 3 by the template 'for every input the law returns true; each argument reads behind the call as it read before'; 0 by the template 'total and deterministic' (their statements: YtbfmeiooeaaibaaGreatTotals.lean).
  GIVEN WITH THE SEED: the statements are not yours to turn. If you find one false, say at which input.
  Laid BY PROGRAM, IN A SANDBOX (cutbox-rows.mjs): the forced cells as the released guide's own fill.sh prints them over the translation 047e2b55f26c18fd… (all of the seat's roots in one cut). By AI agents, Wed Nov 11 2026. No macro, syntax, notation, axiom, sorry.
-/
import Derived.Test.YtbfmeiooeaaibaaGreatChecked
import GoSem.Claim
import GoSem.ClaimJoined
import GoSem.ClaimMapViews
import Derived.JoinedTies
import Derived.KernelRfl
namespace Go.Proofs.YtbfmeiooeaaibaaGreat
/- THE CELL 'sum', in the pinned program and in every row, IS THE sha256 OF THE DUMP (.gsa) THAT YtbfmeiooeaaibaaGreatProg.lean LOADS. Nothing in Lean hashes anything: it is a label: what it is worth is what the hold of that sum in a sandbox is worth. -/
noncomputable def Tryz.pinned : Pinned := { name := "ytbfmeiooeaaibaagreat", sum := "047e2b55f26c18fdf9e2ccf121efd8269f5280a26da6976c6ac81980914b6115", checked := Tryz.checked }
namespace Rows
def none {H : Type} : Left H := { results := [], args := [] }

/-- 'laws.FnExactSourceOf': WHATEVER THE INPUT: true; the input reads as it did. -/
def fnExactSourceOfSpec : ChangeSpec := { name := "fnExactSourceOf", fn := fun _ => fun
  | [d1, d2, d3] => { results := [.lit (.bool true)], args := [d1, d2, d3] }
  | _ => none }
def fnExactSourceOfRow : OpenClaim := { program := "ytbfmeiooeaaibaagreat", sum := "047e2b55f26c18fdf9e2ccf121efd8269f5280a26da6976c6ac81980914b6115", func := "loop.example/g00512/laws.FnExactSourceOf", spec := "fnExactSourceOf", unfollowed := true, recurses := true, loops := true, apart := false }
def FnExactSourceOfSaid : Prop := fnExactSourceOfRow.holds Tryz.pinned (OpenSpec.ofChange fnExactSourceOfSpec)

/-- ITS FALSE NEIGHBOUR: 'it returns false'. Refute it at one input. -/
def fnExactSourceOfWrong : ChangeSpec := { name := "fnExactSourceOf", fn := fun _ => fun
  | [d1, d2, d3] => { results := [.lit (.bool false)], args := [d1, d2, d3] }
  | _ => none }
def FnExactSourceOfWrongFalsely : Prop := fnExactSourceOfRow.holds Tryz.pinned (OpenSpec.ofChange fnExactSourceOfWrong)

/-- 'laws.FnExactIsJustified': WHATEVER THE INPUT: true; the input reads as it did. -/
def fnExactIsJustifiedSpec : ChangeSpec := { name := "fnExactIsJustified", fn := fun _ => fun
  | [d1, d2, d3, d4, d5] => { results := [.lit (.bool true)], args := [d1, d2, d3, d4, d5] }
  | _ => none }
def fnExactIsJustifiedRow : OpenClaim := { program := "ytbfmeiooeaaibaagreat", sum := "047e2b55f26c18fdf9e2ccf121efd8269f5280a26da6976c6ac81980914b6115", func := "loop.example/g00512/laws.FnExactIsJustified", spec := "fnExactIsJustified", unfollowed := true, recurses := true, loops := true, apart := false }
def FnExactIsJustifiedSaid : Prop := fnExactIsJustifiedRow.holds Tryz.pinned (OpenSpec.ofChange fnExactIsJustifiedSpec)

/-- ITS FALSE NEIGHBOUR: 'it returns false'. Refute it at one input. -/
def fnExactIsJustifiedWrong : ChangeSpec := { name := "fnExactIsJustified", fn := fun _ => fun
  | [d1, d2, d3, d4, d5] => { results := [.lit (.bool false)], args := [d1, d2, d3, d4, d5] }
  | _ => none }
def FnExactIsJustifiedWrongFalsely : Prop := fnExactIsJustifiedRow.holds Tryz.pinned (OpenSpec.ofChange fnExactIsJustifiedWrong)

/-- 'laws.FnExactUnjustifiedOf': WHATEVER THE INPUT: true; the input reads as it did. -/
def fnExactUnjustifiedOfSpec : ChangeSpec := { name := "fnExactUnjustifiedOf", fn := fun _ => fun
  | [d1, d2, d3, d4] => { results := [.lit (.bool true)], args := [d1, d2, d3, d4] }
  | _ => none }
def fnExactUnjustifiedOfRow : OpenClaim := { program := "ytbfmeiooeaaibaagreat", sum := "047e2b55f26c18fdf9e2ccf121efd8269f5280a26da6976c6ac81980914b6115", func := "loop.example/g00512/laws.FnExactUnjustifiedOf", spec := "fnExactUnjustifiedOf", unfollowed := true, recurses := true, loops := true, apart := false }
def FnExactUnjustifiedOfSaid : Prop := fnExactUnjustifiedOfRow.holds Tryz.pinned (OpenSpec.ofChange fnExactUnjustifiedOfSpec)

/-- ITS FALSE NEIGHBOUR: 'it returns false'. Refute it at one input. -/
def fnExactUnjustifiedOfWrong : ChangeSpec := { name := "fnExactUnjustifiedOf", fn := fun _ => fun
  | [d1, d2, d3, d4] => { results := [.lit (.bool false)], args := [d1, d2, d3, d4] }
  | _ => none }
def FnExactUnjustifiedOfWrongFalsely : Prop := fnExactUnjustifiedOfRow.holds Tryz.pinned (OpenSpec.ofChange fnExactUnjustifiedOfWrong)

/- THE SECOND FORM. 'bulk': how many values and letters a reading holds, each counted each time it is reached (what is shared counts as often as it is met; a slice's spare places count too). A statement '..UptoSaid' is the law's where the arguments, and the package variables that the reading takes, are together of bulk at most 1048576: NARROWER than '..Said'. Prove '..Said' where nothing that the law and all that it calls make is longer than what came in: it says more and counts as full. Else prove '..UptoSaid'. A law counts once. -/
mutual
def uptoBulk {H : Type} : DataW H → Nat
  | .lit (.string bytes) => bytes.length + 1
  | .lit _ => 1
  | .nil => 1
  | .ptr d => uptoBulk d + 1
  | .slice elems spare => uptoBulkAll elems + uptoBulkAll spare + 1
  | .agg parts => uptoBulkAll parts + 1
  | .iface _ d => uptoBulk d + 1
  | .map entries => uptoBulkEntries entries + 1
  | .held _ => 1
def uptoBulkAll {H : Type} : List (DataW H) → Nat
  | [] => 0
  | d :: r => uptoBulk d + uptoBulkAll r
def uptoBulkEntries {H : Type} : List (Lit × DataW H) → Nat
  | [] => 0
  | x :: r => uptoBulkEntry x + uptoBulkEntries r
def uptoBulkEntry {H : Type} : Lit × DataW H → Nat
  | (.string bytes, d) => bytes.length + uptoBulk d + 1
  | (_, d) => uptoBulk d + 1
 end
def uptoSmall : (H : Type) → List (DataW H) → Bool := fun _ ds => decide (uptoBulkAll ds ≤ 1048576)
def OpenSpec.upto (s : _root_.Go.ChangeSpec) : _root_.Go.OpenSpec := { _root_.Go.OpenSpec.ofChange s with cond := some uptoSmall }

/-- 'laws.FnExactSourceOf', WHERE WHAT IT READS IS OF BULK AT MOST 1048576: true; the input reads as it did. -/
def fnExactSourceOfUptoRow : OpenClaim := { program := "ytbfmeiooeaaibaagreat", sum := "047e2b55f26c18fdf9e2ccf121efd8269f5280a26da6976c6ac81980914b6115", func := "loop.example/g00512/laws.FnExactSourceOf", spec := "fnExactSourceOf", unfollowed := true, recurses := true, loops := true, apart := false, narrowed := true }
def FnExactSourceOfUptoSaid : Prop := fnExactSourceOfUptoRow.holds Tryz.pinned (OpenSpec.upto fnExactSourceOfSpec)

/-- 'laws.FnExactIsJustified', WHERE WHAT IT READS IS OF BULK AT MOST 1048576: true; the input reads as it did. -/
def fnExactIsJustifiedUptoRow : OpenClaim := { program := "ytbfmeiooeaaibaagreat", sum := "047e2b55f26c18fdf9e2ccf121efd8269f5280a26da6976c6ac81980914b6115", func := "loop.example/g00512/laws.FnExactIsJustified", spec := "fnExactIsJustified", unfollowed := true, recurses := true, loops := true, apart := false, narrowed := true }
def FnExactIsJustifiedUptoSaid : Prop := fnExactIsJustifiedUptoRow.holds Tryz.pinned (OpenSpec.upto fnExactIsJustifiedSpec)

/-- 'laws.FnExactUnjustifiedOf', WHERE WHAT IT READS IS OF BULK AT MOST 1048576: true; the input reads as it did. -/
def fnExactUnjustifiedOfUptoRow : OpenClaim := { program := "ytbfmeiooeaaibaagreat", sum := "047e2b55f26c18fdf9e2ccf121efd8269f5280a26da6976c6ac81980914b6115", func := "loop.example/g00512/laws.FnExactUnjustifiedOf", spec := "fnExactUnjustifiedOf", unfollowed := true, recurses := true, loops := true, apart := false, narrowed := true }
def FnExactUnjustifiedOfUptoSaid : Prop := fnExactUnjustifiedOfUptoRow.holds Tryz.pinned (OpenSpec.upto fnExactUnjustifiedOfSpec)

end Rows
end Go.Proofs.YtbfmeiooeaaibaaGreat
