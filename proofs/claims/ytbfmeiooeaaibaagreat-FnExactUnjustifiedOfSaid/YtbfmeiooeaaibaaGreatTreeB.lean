/- What was looked for, and what was found; the empty symbol, rule and attribute. No condition. -/
import Derived.Test.YtbfmeiooeaaibaaGreatTreeP
import Derived.Test.YtbfmeiooeaaibaaGreatFindA
namespace Go.Proofs.YtbfmeiooeaaibaaGreat
open Go.RowKit
variable {d : Nat}

/-- A function hands back what it found, or the empty value, and whether it found it. -/
def Found {α : Type} [Rd α] (fp : List Nat) (w : World) (o : Option α) (z : α) (e : Ending) (w' : World) : Prop :=
  ∃ es fq, e = .returned (.tuple #[.agg es, .bool o.isSome]) ∧ Rd.rd fq w' es.toList (o.getD z) ∧ (∀ c ∈ fq, c ∈ fp ∨ w.heap.size ≤ c) ∧ Gr w w'

/-- A function hands back a datum in new memory. -/
def Made {α : Type} [Rd α] (w : World) (x : α) (e : Ending) (w' : World) : Prop :=
  ∃ ds fq, e = .returned (.agg ds) ∧ Rd.rd fq w' ds.toList x ∧ Fresh w fq ∧ Gr w w'

theorem zeroS_rd (w : World) : Rd.rd (α := GSymbol) ([] ++ []) w [.string ByteArray.empty, .slice none 0 0] zeroS := rdSymbol_mk _ _ (by decide) (SlR.nil w)
theorem zeroR_rd (w : World) : Rd.rd (α := GRule d) ([] ++ ([] ++ ([] ++ ([] ++ ([] ++ []))))) w [.string ByteArray.empty, .string ByteArray.empty, .slice none 0 0, .bool false, .slice none 0 0, .slice none 0 0] zeroR :=
  rdRule_mk _ _ _ _ _ _ (by decide) (by decide) (SlR.nil w) (SlR.nil w) (SlR.nil w)
theorem zeroA_rd (w : World) : Rd.rd (α := GAttribute) ([] ++ ([] ++ ([] ++ []))) w [.string ByteArray.empty, .int .i64 0, .int .i64 0, .bool false] zeroA := rdAttribute_mk _ _ _ _ (by decide) (by decide) (by decide)
end Go.Proofs.YtbfmeiooeaaibaaGreat
