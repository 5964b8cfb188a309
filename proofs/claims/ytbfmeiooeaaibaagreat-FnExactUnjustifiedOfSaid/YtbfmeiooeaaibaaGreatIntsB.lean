/- Contracts of the functions on slices of numbers, continued: search with a test, sizes, copies; slices of slices of numbers. No condition. -/
import Derived.Test.YtbfmeiooeaaibaaGreatInts
namespace Go.Proofs.YtbfmeiooeaaibaaGreat
open Go.RowKit

/-- A function value whose body is a function of the text answers a test on numbers. -/
structure TestI (w : World) (fid : Nat) (cap : Array Value) (p : Int → Bool) (xs : List Int) : Prop where
  fn : ∀ args W, (callFunc fid args).run Tryz.prog W = .ok (.enter fid args) W
  calls : ∀ y ∈ xs, ∀ x : Ext, Calls Tryz.prog fid (#[.int .i64 y] ++ cap) (w.ext x) fun e w' => e = .returned (.bool (p y)) ∧ Gr (w.ext x) w'

end Go.Proofs.YtbfmeiooeaaibaaGreat