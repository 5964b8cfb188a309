/-
  No cell of these rows narrows 'for every input' (looked for: loops, veiled, ifaces, maps, wideKeys, modest, calm, conditions, laid).
  DERIVED. THE GIVEN ROWS OF THIS SEAT. 6 by the template 'for every input the law returns true; each argument reads behind the call as it read before'; 0 by the template 'total and deterministic' (their statements: YtkfaihfgjiahdaaTotals.lean).
  GIVEN WITH THE SEED: the statements are not yours to turn. If you find one false, say at which input.
  Laid BY PROGRAM, IN A SANDBOX (cutbox-rows.mjs): the forced cells as the released guide's own fill.sh prints them over the translation f1a637b9d6e3e0b7… (all of the seat's roots in one cut). By AI agents, Wed Nov 11 2026. No macro, syntax, notation, axiom, sorry.
-/
import Derived.Test.YtkfaihfgjiahdaaChecked
import GoSem.Claim
import GoSem.ClaimJoined
import GoSem.ClaimMapViews
import Derived.JoinedTies
import Derived.KernelRfl
namespace Go.Proofs.Ytkfaihfgjiahdaa
/- THE CELL 'sum', in the pinned program and in every row, IS THE sha256 OF THE DUMP (.gsa) THAT YtkfaihfgjiahdaaProg.lean LOADS. Nothing in Lean hashes anything: it is a label: what it is worth is what the hold of that sum in a sandbox is worth. -/
noncomputable def Try.pinned : Pinned := { name := "ytkfaihfgjiahdaa", sum := "f1a637b9d6e3e0b7866922f6b8d62b121c52a86feb45cdac736ef3e24832cd3f", checked := Try.checked }
namespace Rows
def none {H : Type} : Left H := { results := [], args := [] }

/-- 'laws.FnExactExampleGrammar': WHATEVER THE INPUT: true; the input reads as it did. -/
def fnExactExampleGrammarSpec : ChangeSpec := { name := "fnExactExampleGrammar", fn := fun _ => fun
  | [d] => { results := [.lit (.bool true)], args := [d] }
  | _ => none }
def fnExactExampleGrammarRow : OpenClaim := { program := "ytkfaihfgjiahdaa", sum := "f1a637b9d6e3e0b7866922f6b8d62b121c52a86feb45cdac736ef3e24832cd3f", func := "loop.example/g00512/laws.FnExactExampleGrammar", spec := "fnExactExampleGrammar", apart := false }
def FnExactExampleGrammarSaid : Prop := fnExactExampleGrammarRow.holds Try.pinned (OpenSpec.ofChange fnExactExampleGrammarSpec)

/-- ITS FALSE NEIGHBOUR: 'it returns false'. Refute it at one input. -/
def fnExactExampleGrammarWrong : ChangeSpec := { name := "fnExactExampleGrammar", fn := fun _ => fun
  | [d] => { results := [.lit (.bool false)], args := [d] }
  | _ => none }
def FnExactExampleGrammarWrongFalsely : Prop := fnExactExampleGrammarRow.holds Try.pinned (OpenSpec.ofChange fnExactExampleGrammarWrong)

/-- 'laws.FnExactSharedSize': WHATEVER THE INPUT: true; the input reads as it did. -/
def fnExactSharedSizeSpec : ChangeSpec := { name := "fnExactSharedSize", fn := fun _ => fun
  | [d1, d2] => { results := [.lit (.bool true)], args := [d1, d2] }
  | _ => none }
def fnExactSharedSizeRow : OpenClaim := { program := "ytkfaihfgjiahdaa", sum := "f1a637b9d6e3e0b7866922f6b8d62b121c52a86feb45cdac736ef3e24832cd3f", func := "loop.example/g00512/laws.FnExactSharedSize", spec := "fnExactSharedSize", unfollowed := true, recurses := true, apart := false }
def FnExactSharedSizeSaid : Prop := fnExactSharedSizeRow.holds Try.pinned (OpenSpec.ofChange fnExactSharedSizeSpec)

/-- ITS FALSE NEIGHBOUR: 'it returns false'. Refute it at one input. -/
def fnExactSharedSizeWrong : ChangeSpec := { name := "fnExactSharedSize", fn := fun _ => fun
  | [d1, d2] => { results := [.lit (.bool false)], args := [d1, d2] }
  | _ => none }
def FnExactSharedSizeWrongFalsely : Prop := fnExactSharedSizeRow.holds Try.pinned (OpenSpec.ofChange fnExactSharedSizeWrong)

/-- 'laws.FnExactComponents': WHATEVER THE INPUT: true; the input reads as it did. -/
def fnExactComponentsSpec : ChangeSpec := { name := "fnExactComponents", fn := fun _ => fun
  | [d] => { results := [.lit (.bool true)], args := [d] }
  | _ => none }
def fnExactComponentsRow : OpenClaim := { program := "ytkfaihfgjiahdaa", sum := "f1a637b9d6e3e0b7866922f6b8d62b121c52a86feb45cdac736ef3e24832cd3f", func := "loop.example/g00512/laws.FnExactComponents", spec := "fnExactComponents", unfollowed := true, recurses := true, apart := false }
def FnExactComponentsSaid : Prop := fnExactComponentsRow.holds Try.pinned (OpenSpec.ofChange fnExactComponentsSpec)

/-- ITS FALSE NEIGHBOUR: 'it returns false'. Refute it at one input. -/
def fnExactComponentsWrong : ChangeSpec := { name := "fnExactComponents", fn := fun _ => fun
  | [d] => { results := [.lit (.bool false)], args := [d] }
  | _ => none }
def FnExactComponentsWrongFalsely : Prop := fnExactComponentsRow.holds Try.pinned (OpenSpec.ofChange fnExactComponentsWrong)

/-- 'laws.FnComponents': WHATEVER THE INPUT: true; the input reads as it did. -/
def fnComponentsSpec : ChangeSpec := { name := "fnComponents", fn := fun _ => fun
  | [d] => { results := [.lit (.bool true)], args := [d] }
  | _ => none }
def fnComponentsRow : OpenClaim := { program := "ytkfaihfgjiahdaa", sum := "f1a637b9d6e3e0b7866922f6b8d62b121c52a86feb45cdac736ef3e24832cd3f", func := "loop.example/g00512/laws.FnComponents", spec := "fnComponents", unfollowed := true, recurses := true, apart := false }
def FnComponentsSaid : Prop := fnComponentsRow.holds Try.pinned (OpenSpec.ofChange fnComponentsSpec)

/-- ITS FALSE NEIGHBOUR: 'it returns false'. Refute it at one input. -/
def fnComponentsWrong : ChangeSpec := { name := "fnComponents", fn := fun _ => fun
  | [d] => { results := [.lit (.bool false)], args := [d] }
  | _ => none }
def FnComponentsWrongFalsely : Prop := fnComponentsRow.holds Try.pinned (OpenSpec.ofChange fnComponentsWrong)

/-- 'laws.FnExactMemoValues': WHATEVER THE INPUT: true; the input reads as it did. -/
def fnExactMemoValuesSpec : ChangeSpec := { name := "fnExactMemoValues", fn := fun _ => fun
  | [d1, d2] => { results := [.lit (.bool true)], args := [d1, d2] }
  | _ => none }
def fnExactMemoValuesRow : OpenClaim := { program := "ytkfaihfgjiahdaa", sum := "f1a637b9d6e3e0b7866922f6b8d62b121c52a86feb45cdac736ef3e24832cd3f", func := "loop.example/g00512/laws.FnExactMemoValues", spec := "fnExactMemoValues", apart := false }
def FnExactMemoValuesSaid : Prop := fnExactMemoValuesRow.holds Try.pinned (OpenSpec.ofChange fnExactMemoValuesSpec)

/-- ITS FALSE NEIGHBOUR: 'it returns false'. Refute it at one input. -/
def fnExactMemoValuesWrong : ChangeSpec := { name := "fnExactMemoValues", fn := fun _ => fun
  | [d1, d2] => { results := [.lit (.bool false)], args := [d1, d2] }
  | _ => none }
def FnExactMemoValuesWrongFalsely : Prop := fnExactMemoValuesRow.holds Try.pinned (OpenSpec.ofChange fnExactMemoValuesWrong)

/-- 'laws.FnExactFindEntry': WHATEVER THE INPUT: true; the input reads as it did. -/
def fnExactFindEntrySpec : ChangeSpec := { name := "fnExactFindEntry", fn := fun _ => fun
  | [d1, d2] => { results := [.lit (.bool true)], args := [d1, d2] }
  | _ => none }
def fnExactFindEntryRow : OpenClaim := { program := "ytkfaihfgjiahdaa", sum := "f1a637b9d6e3e0b7866922f6b8d62b121c52a86feb45cdac736ef3e24832cd3f", func := "loop.example/g00512/laws.FnExactFindEntry", spec := "fnExactFindEntry", apart := false }
def FnExactFindEntrySaid : Prop := fnExactFindEntryRow.holds Try.pinned (OpenSpec.ofChange fnExactFindEntrySpec)

/-- ITS FALSE NEIGHBOUR: 'it returns false'. Refute it at one input. -/
def fnExactFindEntryWrong : ChangeSpec := { name := "fnExactFindEntry", fn := fun _ => fun
  | [d1, d2] => { results := [.lit (.bool false)], args := [d1, d2] }
  | _ => none }
def FnExactFindEntryWrongFalsely : Prop := fnExactFindEntryRow.holds Try.pinned (OpenSpec.ofChange fnExactFindEntryWrong)

/- THE SECOND FORM. 'bulk': how many values and letters a reading holds, each counted each time it is reached (what is shared counts as often as it is met; a slice's spare places count too). A statement '..UptoSaid' is the law's where the arguments, and the package variables that the reading takes, are together of bulk at most 1048576: NARROWER than '..Said'. Prove '..Said' where nothing that the law and all that it calls make is longer than what came in: it says more and counts as full. Else prove '..UptoSaid'. A law counts once. -/
mutual
def uptoBulk {H : Type} : DataW H → Nat
  | .lit (.string bytes) => bytes.length + 1
  | .lit _ => 1
  | .nil => 1
  | .ptr d => uptoBulk d + 1
  | .slice elems spare => uptoBulkAll elems + uptoBulkAll spare + 1
  | .agg parts => uptoBulkAll parts + 1
  | .iface _ d => uptoBulk d + 1
  | .map entries => uptoBulkEntries entries + 1
  | .held _ => 1
def uptoBulkAll {H : Type} : List (DataW H) → Nat
  | [] => 0
  | d :: r => uptoBulk d + uptoBulkAll r
def uptoBulkEntries {H : Type} : List (Lit × DataW H) → Nat
  | [] => 0
  | x :: r => uptoBulkEntry x + uptoBulkEntries r
def uptoBulkEntry {H : Type} : Lit × DataW H → Nat
  | (.string bytes, d) => bytes.length + uptoBulk d + 1
  | (_, d) => uptoBulk d + 1
 end
def uptoSmall : (H : Type) → List (DataW H) → Bool := fun _ ds => decide (uptoBulkAll ds ≤ 1048576)
def OpenSpec.upto (s : _root_.Go.ChangeSpec) : _root_.Go.OpenSpec := { _root_.Go.OpenSpec.ofChange s with cond := some uptoSmall }

/-- 'laws.FnExactExampleGrammar', WHERE WHAT IT READS IS OF BULK AT MOST 1048576: true; the input reads as it did. -/
def fnExactExampleGrammarUptoRow : OpenClaim := { program := "ytkfaihfgjiahdaa", sum := "f1a637b9d6e3e0b7866922f6b8d62b121c52a86feb45cdac736ef3e24832cd3f", func := "loop.example/g00512/laws.FnExactExampleGrammar", spec := "fnExactExampleGrammar", apart := false, narrowed := true }
def FnExactExampleGrammarUptoSaid : Prop := fnExactExampleGrammarUptoRow.holds Try.pinned (OpenSpec.upto fnExactExampleGrammarSpec)

/-- 'laws.FnExactSharedSize', WHERE WHAT IT READS IS OF BULK AT MOST 1048576: true; the input reads as it did. -/
def fnExactSharedSizeUptoRow : OpenClaim := { program := "ytkfaihfgjiahdaa", sum := "f1a637b9d6e3e0b7866922f6b8d62b121c52a86feb45cdac736ef3e24832cd3f", func := "loop.example/g00512/laws.FnExactSharedSize", spec := "fnExactSharedSize", unfollowed := true, recurses := true, apart := false, narrowed := true }
def FnExactSharedSizeUptoSaid : Prop := fnExactSharedSizeUptoRow.holds Try.pinned (OpenSpec.upto fnExactSharedSizeSpec)

/-- 'laws.FnExactComponents', WHERE WHAT IT READS IS OF BULK AT MOST 1048576: true; the input reads as it did. -/
def fnExactComponentsUptoRow : OpenClaim := { program := "ytkfaihfgjiahdaa", sum := "f1a637b9d6e3e0b7866922f6b8d62b121c52a86feb45cdac736ef3e24832cd3f", func := "loop.example/g00512/laws.FnExactComponents", spec := "fnExactComponents", unfollowed := true, recurses := true, apart := false, narrowed := true }
def FnExactComponentsUptoSaid : Prop := fnExactComponentsUptoRow.holds Try.pinned (OpenSpec.upto fnExactComponentsSpec)

/-- 'laws.FnComponents', WHERE WHAT IT READS IS OF BULK AT MOST 1048576: true; the input reads as it did. -/
def fnComponentsUptoRow : OpenClaim := { program := "ytkfaihfgjiahdaa", sum := "f1a637b9d6e3e0b7866922f6b8d62b121c52a86feb45cdac736ef3e24832cd3f", func := "loop.example/g00512/laws.FnComponents", spec := "fnComponents", unfollowed := true, recurses := true, apart := false, narrowed := true }
def FnComponentsUptoSaid : Prop := fnComponentsUptoRow.holds Try.pinned (OpenSpec.upto fnComponentsSpec)

/-- 'laws.FnExactMemoValues', WHERE WHAT IT READS IS OF BULK AT MOST 1048576: true; the input reads as it did. -/
def fnExactMemoValuesUptoRow : OpenClaim := { program := "ytkfaihfgjiahdaa", sum := "f1a637b9d6e3e0b7866922f6b8d62b121c52a86feb45cdac736ef3e24832cd3f", func := "loop.example/g00512/laws.FnExactMemoValues", spec := "fnExactMemoValues", apart := false, narrowed := true }
def FnExactMemoValuesUptoSaid : Prop := fnExactMemoValuesUptoRow.holds Try.pinned (OpenSpec.upto fnExactMemoValuesSpec)

/-- 'laws.FnExactFindEntry', WHERE WHAT IT READS IS OF BULK AT MOST 1048576: true; the input reads as it did. -/
def fnExactFindEntryUptoRow : OpenClaim := { program := "ytkfaihfgjiahdaa", sum := "f1a637b9d6e3e0b7866922f6b8d62b121c52a86feb45cdac736ef3e24832cd3f", func := "loop.example/g00512/laws.FnExactFindEntry", spec := "fnExactFindEntry", apart := false, narrowed := true }
def FnExactFindEntryUptoSaid : Prop := fnExactFindEntryUptoRow.holds Try.pinned (OpenSpec.upto fnExactFindEntrySpec)

end Rows
end Go.Proofs.Ytkfaihfgjiahdaa
