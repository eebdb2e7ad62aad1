/- Words that the texts of this claim use in many places. -/
import Derived.Test.YtkgedjaihimafaaMSubsDropsW1
namespace Go.Proofs.Ytkgedjaihimafaa
open Go.RowKit Go.Proofs.YtkgedjaihimafaaW.PrintWords
theorem putA {α : Type _} (xs : List α) (i : Nat) (a : α) : xs.toArray.setIfInBounds i a = (xs.set i a).toArray := List.setIfInBounds_toArray ..
theorem putB {α : Type _} {a b : α} {l : List α} : (a :: l).set 0 b = b :: l := rfl
theorem putC {α : Type _} {a b : α} {l : List α} {n : Nat} : (a :: l).set (n + 1) b = a :: l.set n b := rfl
end Go.Proofs.Ytkgedjaihimafaa
