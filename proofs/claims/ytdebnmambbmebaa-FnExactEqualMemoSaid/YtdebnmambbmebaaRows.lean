/-
  No cell of these rows narrows 'for every input' (looked for: loops, veiled, ifaces, maps, wideKeys, modest, calm, conditions, laid).
  DERIVED. THE GIVEN ROWS OF THIS SEAT. 12 by the template 'for every input the law returns true; each argument reads behind the call as it read before'; 0 by the template 'total and deterministic' (their statements: YtdebnmambbmebaaTotals.lean).
  GIVEN WITH THE SEED: the statements are not yours to turn. If you find one false, say at which input.
  Laid BY PROGRAM, IN A SANDBOX (cutbox-rows.mjs): the forced cells as the released guide's own fill.sh prints them over the translation c7bc9f047c4c2285… (all of the seat's roots in one cut). By AI agents, Wed Nov 11 2026. No macro, syntax, notation, axiom, sorry.
-/
import Derived.Test.YtdebnmambbmebaaChecked
import GoSem.Claim
import GoSem.ClaimJoined
import GoSem.ClaimMapViews
import Derived.JoinedTies
import Derived.KernelRfl
namespace Go.Proofs.Ytdebnmambbmebaa
/- THE CELL 'sum', in the pinned program and in every row, IS THE sha256 OF THE DUMP (.gsa) THAT YtdebnmambbmebaaProg.lean LOADS. Nothing in Lean hashes anything: it is a label: what it is worth is what the hold of that sum in a sandbox is worth. -/
noncomputable def Try.pinned : Pinned := { name := "ytdebnmambbmebaa", sum := "c7bc9f047c4c22853c4b69234868e2de83c11ab40f9fa21012122415081f102a", checked := Try.checked }
namespace Rows
def none {H : Type} : Left H := { results := [], args := [] }

/-- 'laws.FnExactEditName': WHATEVER THE INPUT: true; the input reads as it did. -/
def fnExactEditNameSpec : ChangeSpec := { name := "fnExactEditName", fn := fun _ => fun
  | [d] => { results := [.lit (.bool true)], args := [d] }
  | _ => none }
def fnExactEditNameRow : OpenClaim := { program := "ytdebnmambbmebaa", sum := "c7bc9f047c4c22853c4b69234868e2de83c11ab40f9fa21012122415081f102a", func := "loop.example/g00512/laws.FnExactEditName", spec := "fnExactEditName", apart := false }
def FnExactEditNameSaid : Prop := fnExactEditNameRow.holds Try.pinned (OpenSpec.ofChange fnExactEditNameSpec)

/-- ITS FALSE NEIGHBOUR: 'it returns false'. Refute it at one input. -/
def fnExactEditNameWrong : ChangeSpec := { name := "fnExactEditName", fn := fun _ => fun
  | [d] => { results := [.lit (.bool false)], args := [d] }
  | _ => none }
def FnExactEditNameWrongFalsely : Prop := fnExactEditNameRow.holds Try.pinned (OpenSpec.ofChange fnExactEditNameWrong)

/-- 'laws.FnExactExampleTree': WHATEVER THE INPUT: true; the input reads as it did. -/
def fnExactExampleTreeSpec : ChangeSpec := { name := "fnExactExampleTree", fn := fun _ => fun
  | [d] => { results := [.lit (.bool true)], args := [d] }
  | _ => none }
def fnExactExampleTreeRow : OpenClaim := { program := "ytdebnmambbmebaa", sum := "c7bc9f047c4c22853c4b69234868e2de83c11ab40f9fa21012122415081f102a", func := "loop.example/g00512/laws.FnExactExampleTree", spec := "fnExactExampleTree", apart := false }
def FnExactExampleTreeSaid : Prop := fnExactExampleTreeRow.holds Try.pinned (OpenSpec.ofChange fnExactExampleTreeSpec)

/-- ITS FALSE NEIGHBOUR: 'it returns false'. Refute it at one input. -/
def fnExactExampleTreeWrong : ChangeSpec := { name := "fnExactExampleTree", fn := fun _ => fun
  | [d] => { results := [.lit (.bool false)], args := [d] }
  | _ => none }
def FnExactExampleTreeWrongFalsely : Prop := fnExactExampleTreeRow.holds Try.pinned (OpenSpec.ofChange fnExactExampleTreeWrong)

/-- 'laws.FnExactIsCyclicComponent': WHATEVER THE INPUT: true; the input reads as it did. -/
def fnExactIsCyclicComponentSpec : ChangeSpec := { name := "fnExactIsCyclicComponent", fn := fun _ => fun
  | [d1, d2] => { results := [.lit (.bool true)], args := [d1, d2] }
  | _ => none }
def fnExactIsCyclicComponentRow : OpenClaim := { program := "ytdebnmambbmebaa", sum := "c7bc9f047c4c22853c4b69234868e2de83c11ab40f9fa21012122415081f102a", func := "loop.example/g00512/laws.FnExactIsCyclicComponent", spec := "fnExactIsCyclicComponent", apart := false }
def FnExactIsCyclicComponentSaid : Prop := fnExactIsCyclicComponentRow.holds Try.pinned (OpenSpec.ofChange fnExactIsCyclicComponentSpec)

/-- ITS FALSE NEIGHBOUR: 'it returns false'. Refute it at one input. -/
def fnExactIsCyclicComponentWrong : ChangeSpec := { name := "fnExactIsCyclicComponent", fn := fun _ => fun
  | [d1, d2] => { results := [.lit (.bool false)], args := [d1, d2] }
  | _ => none }
def FnExactIsCyclicComponentWrongFalsely : Prop := fnExactIsCyclicComponentRow.holds Try.pinned (OpenSpec.ofChange fnExactIsCyclicComponentWrong)

/-- 'laws.FnExactExampleGrammar': WHATEVER THE INPUT: true; the input reads as it did. -/
def fnExactExampleGrammarSpec : ChangeSpec := { name := "fnExactExampleGrammar", fn := fun _ => fun
  | [d] => { results := [.lit (.bool true)], args := [d] }
  | _ => none }
def fnExactExampleGrammarRow : OpenClaim := { program := "ytdebnmambbmebaa", sum := "c7bc9f047c4c22853c4b69234868e2de83c11ab40f9fa21012122415081f102a", func := "loop.example/g00512/laws.FnExactExampleGrammar", spec := "fnExactExampleGrammar", apart := false }
def FnExactExampleGrammarSaid : Prop := fnExactExampleGrammarRow.holds Try.pinned (OpenSpec.ofChange fnExactExampleGrammarSpec)

/-- ITS FALSE NEIGHBOUR: 'it returns false'. Refute it at one input. -/
def fnExactExampleGrammarWrong : ChangeSpec := { name := "fnExactExampleGrammar", fn := fun _ => fun
  | [d] => { results := [.lit (.bool false)], args := [d] }
  | _ => none }
def FnExactExampleGrammarWrongFalsely : Prop := fnExactExampleGrammarRow.holds Try.pinned (OpenSpec.ofChange fnExactExampleGrammarWrong)

/-- 'laws.FnExactIsValidStore': WHATEVER THE INPUT: true; the input reads as it did. -/
def fnExactIsValidStoreSpec : ChangeSpec := { name := "fnExactIsValidStore", fn := fun _ => fun
  | [d] => { results := [.lit (.bool true)], args := [d] }
  | _ => none }
def fnExactIsValidStoreRow : OpenClaim := { program := "ytdebnmambbmebaa", sum := "c7bc9f047c4c22853c4b69234868e2de83c11ab40f9fa21012122415081f102a", func := "loop.example/g00512/laws.FnExactIsValidStore", spec := "fnExactIsValidStore", unfollowed := true, recurses := true, apart := false }
def FnExactIsValidStoreSaid : Prop := fnExactIsValidStoreRow.holds Try.pinned (OpenSpec.ofChange fnExactIsValidStoreSpec)

/-- ITS FALSE NEIGHBOUR: 'it returns false'. Refute it at one input. -/
def fnExactIsValidStoreWrong : ChangeSpec := { name := "fnExactIsValidStore", fn := fun _ => fun
  | [d] => { results := [.lit (.bool false)], args := [d] }
  | _ => none }
def FnExactIsValidStoreWrongFalsely : Prop := fnExactIsValidStoreRow.holds Try.pinned (OpenSpec.ofChange fnExactIsValidStoreWrong)

/-- 'laws.FnExactSameSource': WHATEVER THE INPUT: true; the input reads as it did. -/
def fnExactSameSourceSpec : ChangeSpec := { name := "fnExactSameSource", fn := fun _ => fun
  | [d1, d2] => { results := [.lit (.bool true)], args := [d1, d2] }
  | _ => none }
def fnExactSameSourceRow : OpenClaim := { program := "ytdebnmambbmebaa", sum := "c7bc9f047c4c22853c4b69234868e2de83c11ab40f9fa21012122415081f102a", func := "loop.example/g00512/laws.FnExactSameSource", spec := "fnExactSameSource", apart := false }
def FnExactSameSourceSaid : Prop := fnExactSameSourceRow.holds Try.pinned (OpenSpec.ofChange fnExactSameSourceSpec)

/-- ITS FALSE NEIGHBOUR: 'it returns false'. Refute it at one input. -/
def fnExactSameSourceWrong : ChangeSpec := { name := "fnExactSameSource", fn := fun _ => fun
  | [d1, d2] => { results := [.lit (.bool false)], args := [d1, d2] }
  | _ => none }
def FnExactSameSourceWrongFalsely : Prop := fnExactSameSourceRow.holds Try.pinned (OpenSpec.ofChange fnExactSameSourceWrong)

/-- 'laws.FnExactSharedSize': WHATEVER THE INPUT: true; the input reads as it did. -/
def fnExactSharedSizeSpec : ChangeSpec := { name := "fnExactSharedSize", fn := fun _ => fun
  | [d1, d2] => { results := [.lit (.bool true)], args := [d1, d2] }
  | _ => none }
def fnExactSharedSizeRow : OpenClaim := { program := "ytdebnmambbmebaa", sum := "c7bc9f047c4c22853c4b69234868e2de83c11ab40f9fa21012122415081f102a", func := "loop.example/g00512/laws.FnExactSharedSize", spec := "fnExactSharedSize", unfollowed := true, recurses := true, apart := false }
def FnExactSharedSizeSaid : Prop := fnExactSharedSizeRow.holds Try.pinned (OpenSpec.ofChange fnExactSharedSizeSpec)

/-- ITS FALSE NEIGHBOUR: 'it returns false'. Refute it at one input. -/
def fnExactSharedSizeWrong : ChangeSpec := { name := "fnExactSharedSize", fn := fun _ => fun
  | [d1, d2] => { results := [.lit (.bool false)], args := [d1, d2] }
  | _ => none }
def FnExactSharedSizeWrongFalsely : Prop := fnExactSharedSizeRow.holds Try.pinned (OpenSpec.ofChange fnExactSharedSizeWrong)

/-- 'laws.FnExactComponents': WHATEVER THE INPUT: true; the input reads as it did. -/
def fnExactComponentsSpec : ChangeSpec := { name := "fnExactComponents", fn := fun _ => fun
  | [d] => { results := [.lit (.bool true)], args := [d] }
  | _ => none }
def fnExactComponentsRow : OpenClaim := { program := "ytdebnmambbmebaa", sum := "c7bc9f047c4c22853c4b69234868e2de83c11ab40f9fa21012122415081f102a", func := "loop.example/g00512/laws.FnExactComponents", spec := "fnExactComponents", unfollowed := true, recurses := true, apart := false }
def FnExactComponentsSaid : Prop := fnExactComponentsRow.holds Try.pinned (OpenSpec.ofChange fnExactComponentsSpec)

/-- ITS FALSE NEIGHBOUR: 'it returns false'. Refute it at one input. -/
def fnExactComponentsWrong : ChangeSpec := { name := "fnExactComponents", fn := fun _ => fun
  | [d] => { results := [.lit (.bool false)], args := [d] }
  | _ => none }
def FnExactComponentsWrongFalsely : Prop := fnExactComponentsRow.holds Try.pinned (OpenSpec.ofChange fnExactComponentsWrong)

/-- 'laws.FnComponents': WHATEVER THE INPUT: true; the input reads as it did. -/
def fnComponentsSpec : ChangeSpec := { name := "fnComponents", fn := fun _ => fun
  | [d] => { results := [.lit (.bool true)], args := [d] }
  | _ => none }
def fnComponentsRow : OpenClaim := { program := "ytdebnmambbmebaa", sum := "c7bc9f047c4c22853c4b69234868e2de83c11ab40f9fa21012122415081f102a", func := "loop.example/g00512/laws.FnComponents", spec := "fnComponents", unfollowed := true, recurses := true, apart := false }
def FnComponentsSaid : Prop := fnComponentsRow.holds Try.pinned (OpenSpec.ofChange fnComponentsSpec)

/-- ITS FALSE NEIGHBOUR: 'it returns false'. Refute it at one input. -/
def fnComponentsWrong : ChangeSpec := { name := "fnComponents", fn := fun _ => fun
  | [d] => { results := [.lit (.bool false)], args := [d] }
  | _ => none }
def FnComponentsWrongFalsely : Prop := fnComponentsRow.holds Try.pinned (OpenSpec.ofChange fnComponentsWrong)

/-- 'laws.FnExactSameResults': WHATEVER THE INPUT: true; the input reads as it did. -/
def fnExactSameResultsSpec : ChangeSpec := { name := "fnExactSameResults", fn := fun _ => fun
  | [d1, d2] => { results := [.lit (.bool true)], args := [d1, d2] }
  | _ => none }
def fnExactSameResultsRow : OpenClaim := { program := "ytdebnmambbmebaa", sum := "c7bc9f047c4c22853c4b69234868e2de83c11ab40f9fa21012122415081f102a", func := "loop.example/g00512/laws.FnExactSameResults", spec := "fnExactSameResults", unfollowed := true, recurses := true, apart := false }
def FnExactSameResultsSaid : Prop := fnExactSameResultsRow.holds Try.pinned (OpenSpec.ofChange fnExactSameResultsSpec)

/-- ITS FALSE NEIGHBOUR: 'it returns false'. Refute it at one input. -/
def fnExactSameResultsWrong : ChangeSpec := { name := "fnExactSameResults", fn := fun _ => fun
  | [d1, d2] => { results := [.lit (.bool false)], args := [d1, d2] }
  | _ => none }
def FnExactSameResultsWrongFalsely : Prop := fnExactSameResultsRow.holds Try.pinned (OpenSpec.ofChange fnExactSameResultsWrong)

/-- 'laws.FnExactEqualMemo': WHATEVER THE INPUT: true; the input reads as it did. -/
def fnExactEqualMemoSpec : ChangeSpec := { name := "fnExactEqualMemo", fn := fun _ => fun
  | [d1, d2] => { results := [.lit (.bool true)], args := [d1, d2] }
  | _ => none }
def fnExactEqualMemoRow : OpenClaim := { program := "ytdebnmambbmebaa", sum := "c7bc9f047c4c22853c4b69234868e2de83c11ab40f9fa21012122415081f102a", func := "loop.example/g00512/laws.FnExactEqualMemo", spec := "fnExactEqualMemo", unfollowed := true, recurses := true, apart := false }
def FnExactEqualMemoSaid : Prop := fnExactEqualMemoRow.holds Try.pinned (OpenSpec.ofChange fnExactEqualMemoSpec)

/-- ITS FALSE NEIGHBOUR: 'it returns false'. Refute it at one input. -/
def fnExactEqualMemoWrong : ChangeSpec := { name := "fnExactEqualMemo", fn := fun _ => fun
  | [d1, d2] => { results := [.lit (.bool false)], args := [d1, d2] }
  | _ => none }
def FnExactEqualMemoWrongFalsely : Prop := fnExactEqualMemoRow.holds Try.pinned (OpenSpec.ofChange fnExactEqualMemoWrong)

/-- 'laws.FnExactMemoValues': WHATEVER THE INPUT: true; the input reads as it did. -/
def fnExactMemoValuesSpec : ChangeSpec := { name := "fnExactMemoValues", fn := fun _ => fun
  | [d1, d2] => { results := [.lit (.bool true)], args := [d1, d2] }
  | _ => none }
def fnExactMemoValuesRow : OpenClaim := { program := "ytdebnmambbmebaa", sum := "c7bc9f047c4c22853c4b69234868e2de83c11ab40f9fa21012122415081f102a", func := "loop.example/g00512/laws.FnExactMemoValues", spec := "fnExactMemoValues", apart := false }
def FnExactMemoValuesSaid : Prop := fnExactMemoValuesRow.holds Try.pinned (OpenSpec.ofChange fnExactMemoValuesSpec)

/-- ITS FALSE NEIGHBOUR: 'it returns false'. Refute it at one input. -/
def fnExactMemoValuesWrong : ChangeSpec := { name := "fnExactMemoValues", fn := fun _ => fun
  | [d1, d2] => { results := [.lit (.bool false)], args := [d1, d2] }
  | _ => none }
def FnExactMemoValuesWrongFalsely : Prop := fnExactMemoValuesRow.holds Try.pinned (OpenSpec.ofChange fnExactMemoValuesWrong)

/- THE SECOND FORM. 'bulk': how many values and letters a reading holds, each counted each time it is reached (what is shared counts as often as it is met; a slice's spare places count too). A statement '..UptoSaid' is the law's where the arguments, and the package variables that the reading takes, are together of bulk at most 1048576: NARROWER than '..Said'. Prove '..Said' where nothing that the law and all that it calls make is longer than what came in: it says more and counts as full. Else prove '..UptoSaid'. A law counts once. -/
mutual
def uptoBulk {H : Type} : DataW H → Nat
  | .lit (.string bytes) => bytes.length + 1
  | .lit _ => 1
  | .nil => 1
  | .ptr d => uptoBulk d + 1
  | .slice elems spare => uptoBulkAll elems + uptoBulkAll spare + 1
  | .agg parts => uptoBulkAll parts + 1
  | .iface _ d => uptoBulk d + 1
  | .map entries => uptoBulkEntries entries + 1
  | .held _ => 1
def uptoBulkAll {H : Type} : List (DataW H) → Nat
  | [] => 0
  | d :: r => uptoBulk d + uptoBulkAll r
def uptoBulkEntries {H : Type} : List (Lit × DataW H) → Nat
  | [] => 0
  | x :: r => uptoBulkEntry x + uptoBulkEntries r
def uptoBulkEntry {H : Type} : Lit × DataW H → Nat
  | (.string bytes, d) => bytes.length + uptoBulk d + 1
  | (_, d) => uptoBulk d + 1
 end
def uptoSmall : (H : Type) → List (DataW H) → Bool := fun _ ds => decide (uptoBulkAll ds ≤ 1048576)
def OpenSpec.upto (s : _root_.Go.ChangeSpec) : _root_.Go.OpenSpec := { _root_.Go.OpenSpec.ofChange s with cond := some uptoSmall }

/-- 'laws.FnExactEditName', WHERE WHAT IT READS IS OF BULK AT MOST 1048576: true; the input reads as it did. -/
def fnExactEditNameUptoRow : OpenClaim := { program := "ytdebnmambbmebaa", sum := "c7bc9f047c4c22853c4b69234868e2de83c11ab40f9fa21012122415081f102a", func := "loop.example/g00512/laws.FnExactEditName", spec := "fnExactEditName", apart := false, narrowed := true }
def FnExactEditNameUptoSaid : Prop := fnExactEditNameUptoRow.holds Try.pinned (OpenSpec.upto fnExactEditNameSpec)

/-- 'laws.FnExactExampleTree', WHERE WHAT IT READS IS OF BULK AT MOST 1048576: true; the input reads as it did. -/
def fnExactExampleTreeUptoRow : OpenClaim := { program := "ytdebnmambbmebaa", sum := "c7bc9f047c4c22853c4b69234868e2de83c11ab40f9fa21012122415081f102a", func := "loop.example/g00512/laws.FnExactExampleTree", spec := "fnExactExampleTree", apart := false, narrowed := true }
def FnExactExampleTreeUptoSaid : Prop := fnExactExampleTreeUptoRow.holds Try.pinned (OpenSpec.upto fnExactExampleTreeSpec)

/-- 'laws.FnExactIsCyclicComponent', WHERE WHAT IT READS IS OF BULK AT MOST 1048576: true; the input reads as it did. -/
def fnExactIsCyclicComponentUptoRow : OpenClaim := { program := "ytdebnmambbmebaa", sum := "c7bc9f047c4c22853c4b69234868e2de83c11ab40f9fa21012122415081f102a", func := "loop.example/g00512/laws.FnExactIsCyclicComponent", spec := "fnExactIsCyclicComponent", apart := false, narrowed := true }
def FnExactIsCyclicComponentUptoSaid : Prop := fnExactIsCyclicComponentUptoRow.holds Try.pinned (OpenSpec.upto fnExactIsCyclicComponentSpec)

/-- 'laws.FnExactExampleGrammar', WHERE WHAT IT READS IS OF BULK AT MOST 1048576: true; the input reads as it did. -/
def fnExactExampleGrammarUptoRow : OpenClaim := { program := "ytdebnmambbmebaa", sum := "c7bc9f047c4c22853c4b69234868e2de83c11ab40f9fa21012122415081f102a", func := "loop.example/g00512/laws.FnExactExampleGrammar", spec := "fnExactExampleGrammar", apart := false, narrowed := true }
def FnExactExampleGrammarUptoSaid : Prop := fnExactExampleGrammarUptoRow.holds Try.pinned (OpenSpec.upto fnExactExampleGrammarSpec)

/-- 'laws.FnExactIsValidStore', WHERE WHAT IT READS IS OF BULK AT MOST 1048576: true; the input reads as it did. -/
def fnExactIsValidStoreUptoRow : OpenClaim := { program := "ytdebnmambbmebaa", sum := "c7bc9f047c4c22853c4b69234868e2de83c11ab40f9fa21012122415081f102a", func := "loop.example/g00512/laws.FnExactIsValidStore", spec := "fnExactIsValidStore", unfollowed := true, recurses := true, apart := false, narrowed := true }
def FnExactIsValidStoreUptoSaid : Prop := fnExactIsValidStoreUptoRow.holds Try.pinned (OpenSpec.upto fnExactIsValidStoreSpec)

/-- 'laws.FnExactSameSource', WHERE WHAT IT READS IS OF BULK AT MOST 1048576: true; the input reads as it did. -/
def fnExactSameSourceUptoRow : OpenClaim := { program := "ytdebnmambbmebaa", sum := "c7bc9f047c4c22853c4b69234868e2de83c11ab40f9fa21012122415081f102a", func := "loop.example/g00512/laws.FnExactSameSource", spec := "fnExactSameSource", apart := false, narrowed := true }
def FnExactSameSourceUptoSaid : Prop := fnExactSameSourceUptoRow.holds Try.pinned (OpenSpec.upto fnExactSameSourceSpec)

/-- 'laws.FnExactSharedSize', WHERE WHAT IT READS IS OF BULK AT MOST 1048576: true; the input reads as it did. -/
def fnExactSharedSizeUptoRow : OpenClaim := { program := "ytdebnmambbmebaa", sum := "c7bc9f047c4c22853c4b69234868e2de83c11ab40f9fa21012122415081f102a", func := "loop.example/g00512/laws.FnExactSharedSize", spec := "fnExactSharedSize", unfollowed := true, recurses := true, apart := false, narrowed := true }
def FnExactSharedSizeUptoSaid : Prop := fnExactSharedSizeUptoRow.holds Try.pinned (OpenSpec.upto fnExactSharedSizeSpec)

/-- 'laws.FnExactComponents', WHERE WHAT IT READS IS OF BULK AT MOST 1048576: true; the input reads as it did. -/
def fnExactComponentsUptoRow : OpenClaim := { program := "ytdebnmambbmebaa", sum := "c7bc9f047c4c22853c4b69234868e2de83c11ab40f9fa21012122415081f102a", func := "loop.example/g00512/laws.FnExactComponents", spec := "fnExactComponents", unfollowed := true, recurses := true, apart := false, narrowed := true }
def FnExactComponentsUptoSaid : Prop := fnExactComponentsUptoRow.holds Try.pinned (OpenSpec.upto fnExactComponentsSpec)

/-- 'laws.FnComponents', WHERE WHAT IT READS IS OF BULK AT MOST 1048576: true; the input reads as it did. -/
def fnComponentsUptoRow : OpenClaim := { program := "ytdebnmambbmebaa", sum := "c7bc9f047c4c22853c4b69234868e2de83c11ab40f9fa21012122415081f102a", func := "loop.example/g00512/laws.FnComponents", spec := "fnComponents", unfollowed := true, recurses := true, apart := false, narrowed := true }
def FnComponentsUptoSaid : Prop := fnComponentsUptoRow.holds Try.pinned (OpenSpec.upto fnComponentsSpec)

/-- 'laws.FnExactSameResults', WHERE WHAT IT READS IS OF BULK AT MOST 1048576: true; the input reads as it did. -/
def fnExactSameResultsUptoRow : OpenClaim := { program := "ytdebnmambbmebaa", sum := "c7bc9f047c4c22853c4b69234868e2de83c11ab40f9fa21012122415081f102a", func := "loop.example/g00512/laws.FnExactSameResults", spec := "fnExactSameResults", unfollowed := true, recurses := true, apart := false, narrowed := true }
def FnExactSameResultsUptoSaid : Prop := fnExactSameResultsUptoRow.holds Try.pinned (OpenSpec.upto fnExactSameResultsSpec)

/-- 'laws.FnExactEqualMemo', WHERE WHAT IT READS IS OF BULK AT MOST 1048576: true; the input reads as it did. -/
def fnExactEqualMemoUptoRow : OpenClaim := { program := "ytdebnmambbmebaa", sum := "c7bc9f047c4c22853c4b69234868e2de83c11ab40f9fa21012122415081f102a", func := "loop.example/g00512/laws.FnExactEqualMemo", spec := "fnExactEqualMemo", unfollowed := true, recurses := true, apart := false, narrowed := true }
def FnExactEqualMemoUptoSaid : Prop := fnExactEqualMemoUptoRow.holds Try.pinned (OpenSpec.upto fnExactEqualMemoSpec)

/-- 'laws.FnExactMemoValues', WHERE WHAT IT READS IS OF BULK AT MOST 1048576: true; the input reads as it did. -/
def fnExactMemoValuesUptoRow : OpenClaim := { program := "ytdebnmambbmebaa", sum := "c7bc9f047c4c22853c4b69234868e2de83c11ab40f9fa21012122415081f102a", func := "loop.example/g00512/laws.FnExactMemoValues", spec := "fnExactMemoValues", apart := false, narrowed := true }
def FnExactMemoValuesUptoSaid : Prop := fnExactMemoValuesUptoRow.holds Try.pinned (OpenSpec.upto fnExactMemoValuesSpec)

end Rows
end Go.Proofs.Ytdebnmambbmebaa
