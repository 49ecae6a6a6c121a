/-
  The walk of FnExactConstants: the law returns true.
  Conditions: none.
-/
import Derived.Test.YtihdggdajeekgaaFuncs
namespace Go.Proofs.Ytihdggdajeekgaa
open Go.ChangeShapes Go.WideShapes Go.ChangeAt Go.RowKit Go.Joins
set_option maxHeartbeats 1000000 in
theorem lawConstants_walk (W : World) : Calls Try.prog 3 #[] W fun e w' => e = .returned (.bool true) ∧ Below W.heap.size W w' := by
  go_enter Try.func3, Try.ntmps3
  go_wp2
  go_ret
  exact ⟨rfl, by go_grown⟩
end Go.Proofs.Ytihdggdajeekgaa
